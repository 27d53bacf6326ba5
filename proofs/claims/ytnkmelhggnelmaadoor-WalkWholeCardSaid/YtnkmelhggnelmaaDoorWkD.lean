/- The package walk over a memory: Two. -/
import Derived.Test.YtnkmelhggnelmaaDoorWkC
namespace Go.Proofs.YtnkmelhggnelmaaDoor
open Go Go.RowKit
set_option linter.unusedSimpArgs false
set_option linter.unusedVariables false
set_option maxRecDepth 100000
/-- What a walk of two stages answers: a refusal, or a page. -/
def TwoR (N : Nat) (B : Nat → Nat) (first sec : Int) (A : Nat) (k : Int) (u : Bool) (r : Value) : Prop :=
  (∃ (c : Int) (g : Nat), r = .tuple #[.agg zeroF, .agg #[.int .i64 c, .int .u64 A, .int .u64 g]] ∧ c ≠ 0 ∧ (first < 0 → A < 262144 → oneV N B sec A k true = none ∧ c = fltZ k true ∧ g = A) ∧ (¬ A < 262144 → c = fltZ k false)) ∨
  (∃ (v g : Nat) (r1 w1 x1 us : Bool) (lv : Int), r = .tuple #[.agg #[.int .i64 (ef v), .bool (r1 && eb v 1), .bool (w1 && eb v 2), .bool (x1 && eb v 3), .bool us, .int .i64 lv], .agg zeroT] ∧ oneV N B sec g k true = some v ∧ (k = 0 → x1 = true) ∧ (k = 1 → r1 = true) ∧ (k = 2 → w1 = true) ∧ us = u ∧ A < 262144 ∧ (first < 0 → r1 = true ∧ w1 = true ∧ x1 = true ∧ g = A ∧ lv = 2))
set_option maxHeartbeats 1000000 in
theorem two_no {w : World} {p N : Nat} {B : Nat → Nat} (first sec : Int) {A : Nat} (hA : A < 18446744073709551616) (k : Int) (u : Bool) (h : ¬ (A < 262144 ∧ first ≤ 1099511627776)) :
    Calls Tryd.prog 6 #[rdr p, .int .i64 first, .int .i64 sec, .int .u64 A, .int .i64 k, .bool u] w fun r w' => (∃ v, r = .returned v ∧ TwoR N B first sec A k u v) ∧ Grows w w' := by
  unfold rdr
  have hsp := fun W => split_any A (by omega) (by omega) W
  have HN := Lib.hid (show TwoR N B first sec A k u (.tuple #[.agg zeroF, .agg #[.int .i64 (fltZ k false), .int .u64 A, .int .u64 0]]) from Or.inl ⟨_, 0, rfl, fltZ_pos _ _, fun h1 h2 => absurd ⟨h2, by omega⟩ h, fun _ => rfl⟩)
  by_cases h1 : A < 262144
  · have h1' : (A : Int) < 262144 := by omega
    rw [if_pos h1'] at hsp
    have d2 : decide (1099511627776 < first) = true := decide_eq_true (by omega)
    generalize (A : Int) / 8192 = x0 at *
    generalize (A : Int) / 256 % 32 = x1 at *
    generalize (A : Int) % 256 = x2 at *
    clear h h1 h1' hA
    go_enter Tryd.func6, Tryd.ntmps6
    go_wp2_with fail
    obtain ⟨W1, hW1⟩ : ∃ W1, W1 = ((w.alloc (Obj.cells zeroF 34)).alloc (Obj.cells zeroT 36)).alloc (Obj.cells (wkL p sec A k 0) 61) := ⟨_, rfl⟩
    obtain ⟨b14, hb14⟩ : ∃ b, b = w.heap.size + 2 := ⟨_, rfl⟩
    obtain ⟨b13, hb13⟩ : ∃ b, b = w.heap.size + 1 := ⟨_, rfl⟩
    obtain ⟨b12, hb12⟩ : ∃ b, b = w.heap.size := ⟨_, rfl⟩
    have hr12 : Row W1 b12 zeroF 34 := by rw [hW1, hb12]; exact (Row.new _ _ _).grows (((Grows.refl _).alloc _).alloc _)
    have hr13 : Row W1 b13 zeroT 36 := by rw [hW1]; exact (Row.new_at (w.alloc (Obj.cells zeroF 34)) _ _ (by simp [hb13])).grows ((Grows.refl _).alloc _)
    have hr14 : Row W1 b14 (wkL p sec A k 0) 61 := by rw [hW1]; exact Row.new_at _ _ _ (by simp [hb14])
    have hg1 : Grows w W1 := by rw [hW1]; exact (((Grows.refl _).alloc _).alloc _).alloc _
    have HB := Lib.hid (show w.heap.size ≤ b12 ∧ w.heap.size ≤ b13 ∧ w.heap.size ≤ b14 by omega)
    have n1312 : b13 ≠ b12 := by omega
    have n1412 : b14 ≠ b12 := by omega
    have n1413 : b14 ≠ b13 := by omega
    change Calls _ _ _ (((w.alloc (Obj.cells zeroF 34)).alloc (Obj.cells zeroT 36)).alloc (Obj.cells (wkL p sec A k 0) 61)) _
    rw [← hW1]
    rw [← hb14, ← hb13, ← hb12]
    clear hb14 hb13 hb12 hW1
    refine (fault_any k false W1).mono ?_
    rintro _ _ ⟨rfl, hw⟩
    rw [hw]
    clear hw
    go_wp2_with fail
    obtain ⟨W2, hW2⟩ : ∃ W2, W2 = W1.alloc (Obj.cells #[.int .i64 (fltZ k false), .int .u64 A, .int .u64 0] 36) := ⟨_, rfl⟩
    obtain ⟨b15, hb15⟩ : ∃ b, b = W1.heap.size := ⟨_, rfl⟩
    rw [← hW2, ← hb15]
    have hr15 : Row W2 b15 #[.int .i64 (fltZ k false), .int .u64 A, .int .u64 0] 36 := by rw [hW2]; exact Row.new_at _ _ _ hb15
    have hg12 : Grows W1 W2 := by rw [hW2]; exact (Grows.refl _).alloc _
    have n1215 : b12 ≠ b15 := by have := hr12.lt; omega
    have n1315 : b13 ≠ b15 := by have := hr13.lt; omega
    have n1415 : b14 ≠ b15 := by have := hr14.lt; omega
    clear hW2 hb15
    refine (hsp W2).mono ?_
    rintro _ W3 ⟨rfl, hg23⟩
    have HR12 := Lib.hid ((hr12.grows hg12).grows hg23)
    have HR13 := Lib.hid ((hr13.grows hg12).grows hg23)
    have HRW := Lib.hid ((hr14.grows hg12).grows hg23)
    have HR15 := Lib.hid (hr15.grows hg23)
    have HG := Lib.hid ((hg1.trans hg12).trans hg23)
    clear hr12 hr13 hr14 hr15 hg1 hg12 hg23 hsp
    go_wp2_with fail
    have l4 := HR12.out.lt
    have f0 := HR12.out.frozen 0
    have f1 := HR12.out.frozen 1
    have f2 := HR12.out.frozen 2
    have f3 := HR12.out.frozen 3
    have f4 := HR12.out.frozen 4
    have f5 := HR12.out.frozen 5
    have k0 := (HR12.out.cell 0).trans (show zeroF[0]? = some (.int .i64 0) from rfl)
    have k1 := (HR12.out.cell 1).trans (show zeroF[1]? = some (.bool false) from rfl)
    have k2 := (HR12.out.cell 2).trans (show zeroF[2]? = some (.bool false) from rfl)
    have k3 := (HR12.out.cell 3).trans (show zeroF[3]? = some (.bool false) from rfl)
    have k4 := (HR12.out.cell 4).trans (show zeroF[4]? = some (.bool false) from rfl)
    have k5 := (HR12.out.cell 5).trans (show zeroF[5]? = some (.int .i64 0) from rfl)
    have l5 := HR13.out.lt
    have g0 := HR13.out.frozen 0
    have g1 := HR13.out.frozen 1
    have g2 := HR13.out.frozen 2
    have m0 := (HR13.out.cell 0).trans (show zeroT[0]? = some (.int .i64 0) from rfl)
    have m1 := (HR13.out.cell 1).trans (show zeroT[1]? = some (.int .u64 0) from rfl)
    have m2 := (HR13.out.cell 2).trans (show zeroT[2]? = some (.int .u64 0) from rfl)
    have ls := HR15.out.lt
    have x0 := (HR15.out.cell 0).trans (show (#[Value.int .i64 (fltZ k false), .int .u64 A, .int .u64 0] : Array Value)[0]? = some (.int .i64 (fltZ k false)) from rfl)
    have x1 := (HR15.out.cell 1).trans (show (#[Value.int .i64 (fltZ k false), .int .u64 A, .int .u64 0] : Array Value)[1]? = some (.int .u64 A) from rfl)
    have x2 := (HR15.out.cell 2).trans (show (#[Value.int .i64 (fltZ k false), .int .u64 A, .int .u64 0] : Array Value)[2]? = some (.int .u64 0) from rfl)
    go_region
    all_goals
      clear l4 f0 f1 f2 f3 f4 f5 k0 k1 k2 k3 k4 k5 l5 g0 g1 g2 m0 m1 m2 ls x0 x1 x2
      go_wp2_with fail
      have hF12 := ((row_over3 (row_fill6 HR12.out 0 0 false false false false) n1312 (fltZ k false) A 0).grows ((Grows.refl _).drew)).cell
      have hF13 := ((row_fill3 (row_over6 HR13.out n1312.symm 0 0 false false false false) (fltZ k false) A 0).grows ((Grows.refl _).drew)).cell
      exact bodyPost_ret (v := .tuple #[.agg zeroF, .agg #[.int .i64 (fltZ k false), .int .u64 A, .int .u64 0]]) (by simp [results, Tryd.results6, go_sem, hF12, hF13, zeroF]) rfl ⟨⟨_, rfl, HN.out⟩, (grows_fill3 (grows_fill6 HG.out HB.out.1 _ _ _ _ _ _) HB.out.2.1 _ _ _).drew⟩
  · have h1' : ¬ (A : Int) < 262144 := by omega
    rw [if_neg h1'] at hsp
    clear h h1 h1' hA
    go_enter Tryd.func6, Tryd.ntmps6
    go_wp2_with fail
    obtain ⟨W1, hW1⟩ : ∃ W1, W1 = ((w.alloc (Obj.cells zeroF 34)).alloc (Obj.cells zeroT 36)).alloc (Obj.cells (wkL p sec A k 0) 61) := ⟨_, rfl⟩
    obtain ⟨b14, hb14⟩ : ∃ b, b = w.heap.size + 2 := ⟨_, rfl⟩
    obtain ⟨b13, hb13⟩ : ∃ b, b = w.heap.size + 1 := ⟨_, rfl⟩
    obtain ⟨b12, hb12⟩ : ∃ b, b = w.heap.size := ⟨_, rfl⟩
    have hr12 : Row W1 b12 zeroF 34 := by rw [hW1, hb12]; exact (Row.new _ _ _).grows (((Grows.refl _).alloc _).alloc _)
    have hr13 : Row W1 b13 zeroT 36 := by rw [hW1]; exact (Row.new_at (w.alloc (Obj.cells zeroF 34)) _ _ (by simp [hb13])).grows ((Grows.refl _).alloc _)
    have hr14 : Row W1 b14 (wkL p sec A k 0) 61 := by rw [hW1]; exact Row.new_at _ _ _ (by simp [hb14])
    have hg1 : Grows w W1 := by rw [hW1]; exact (((Grows.refl _).alloc _).alloc _).alloc _
    have HB := Lib.hid (show w.heap.size ≤ b12 ∧ w.heap.size ≤ b13 ∧ w.heap.size ≤ b14 by omega)
    have n1312 : b13 ≠ b12 := by omega
    have n1412 : b14 ≠ b12 := by omega
    have n1413 : b14 ≠ b13 := by omega
    change Calls _ _ _ (((w.alloc (Obj.cells zeroF 34)).alloc (Obj.cells zeroT 36)).alloc (Obj.cells (wkL p sec A k 0) 61)) _
    rw [← hW1]
    rw [← hb14, ← hb13, ← hb12]
    clear hb14 hb13 hb12 hW1
    refine (fault_any k false W1).mono ?_
    rintro _ _ ⟨rfl, hw⟩
    rw [hw]
    clear hw
    go_wp2_with fail
    obtain ⟨W2, hW2⟩ : ∃ W2, W2 = W1.alloc (Obj.cells #[.int .i64 (fltZ k false), .int .u64 A, .int .u64 0] 36) := ⟨_, rfl⟩
    obtain ⟨b15, hb15⟩ : ∃ b, b = W1.heap.size := ⟨_, rfl⟩
    rw [← hW2, ← hb15]
    have hr15 : Row W2 b15 #[.int .i64 (fltZ k false), .int .u64 A, .int .u64 0] 36 := by rw [hW2]; exact Row.new_at _ _ _ hb15
    have hg12 : Grows W1 W2 := by rw [hW2]; exact (Grows.refl _).alloc _
    have n1215 : b12 ≠ b15 := by have := hr12.lt; omega
    have n1315 : b13 ≠ b15 := by have := hr13.lt; omega
    have n1415 : b14 ≠ b15 := by have := hr14.lt; omega
    clear hW2 hb15
    refine (hsp W2).mono ?_
    rintro _ W3 ⟨rfl, hg23⟩
    have HR12 := Lib.hid ((hr12.grows hg12).grows hg23)
    have HR13 := Lib.hid ((hr13.grows hg12).grows hg23)
    have HRW := Lib.hid ((hr14.grows hg12).grows hg23)
    have HR15 := Lib.hid (hr15.grows hg23)
    have HG := Lib.hid ((hg1.trans hg12).trans hg23)
    clear hr12 hr13 hr14 hr15 hg1 hg12 hg23 hsp
    go_wp2_with fail
    have l4 := HR12.out.lt
    have f0 := HR12.out.frozen 0
    have f1 := HR12.out.frozen 1
    have f2 := HR12.out.frozen 2
    have f3 := HR12.out.frozen 3
    have f4 := HR12.out.frozen 4
    have f5 := HR12.out.frozen 5
    have k0 := (HR12.out.cell 0).trans (show zeroF[0]? = some (.int .i64 0) from rfl)
    have k1 := (HR12.out.cell 1).trans (show zeroF[1]? = some (.bool false) from rfl)
    have k2 := (HR12.out.cell 2).trans (show zeroF[2]? = some (.bool false) from rfl)
    have k3 := (HR12.out.cell 3).trans (show zeroF[3]? = some (.bool false) from rfl)
    have k4 := (HR12.out.cell 4).trans (show zeroF[4]? = some (.bool false) from rfl)
    have k5 := (HR12.out.cell 5).trans (show zeroF[5]? = some (.int .i64 0) from rfl)
    have l5 := HR13.out.lt
    have g0 := HR13.out.frozen 0
    have g1 := HR13.out.frozen 1
    have g2 := HR13.out.frozen 2
    have m0 := (HR13.out.cell 0).trans (show zeroT[0]? = some (.int .i64 0) from rfl)
    have m1 := (HR13.out.cell 1).trans (show zeroT[1]? = some (.int .u64 0) from rfl)
    have m2 := (HR13.out.cell 2).trans (show zeroT[2]? = some (.int .u64 0) from rfl)
    have ls := HR15.out.lt
    have x0 := (HR15.out.cell 0).trans (show (#[Value.int .i64 (fltZ k false), .int .u64 A, .int .u64 0] : Array Value)[0]? = some (.int .i64 (fltZ k false)) from rfl)
    have x1 := (HR15.out.cell 1).trans (show (#[Value.int .i64 (fltZ k false), .int .u64 A, .int .u64 0] : Array Value)[1]? = some (.int .u64 A) from rfl)
    have x2 := (HR15.out.cell 2).trans (show (#[Value.int .i64 (fltZ k false), .int .u64 A, .int .u64 0] : Array Value)[2]? = some (.int .u64 0) from rfl)
    go_region
    all_goals
      clear l4 f0 f1 f2 f3 f4 f5 k0 k1 k2 k3 k4 k5 l5 g0 g1 g2 m0 m1 m2 ls x0 x1 x2
      go_wp2_with fail
      have hF12 := ((row_over3 (row_fill6 HR12.out 0 0 false false false false) n1312 (fltZ k false) A 0).grows ((Grows.refl _).drew)).cell
      have hF13 := ((row_fill3 (row_over6 HR13.out n1312.symm 0 0 false false false false) (fltZ k false) A 0).grows ((Grows.refl _).drew)).cell
      exact bodyPost_ret (v := .tuple #[.agg zeroF, .agg #[.int .i64 (fltZ k false), .int .u64 A, .int .u64 0]]) (by simp [results, Tryd.results6, go_sem, hF12, hF13, zeroF]) rfl ⟨⟨_, rfl, HN.out⟩, (grows_fill3 (grows_fill6 HG.out HB.out.1 _ _ _ _ _ _) HB.out.2.1 _ _ _).drew⟩
set_option maxHeartbeats 1000000 in
theorem two_neg {w : World} {p q N : Nat} {B : Nat → Nat} (hW : Widths w) (hP : Places w) (h : Mem w p q N B) {first : Int} (sec : Int) {A : Nat} (hA : A < 262144) (k : Int) (u : Bool) (hf : first < 0) :
    Calls Tryd.prog 6 #[rdr p, .int .i64 first, .int .i64 sec, .int .u64 A, .int .i64 k, .bool u] w fun r w' => (∃ v, r = .returned v ∧ TwoR N B first sec A k u v) ∧ Grows w w' := by
  unfold rdr
  have hsp := fun W => split_any A (by omega) (by omega) W
  rw [if_pos (show (A : Int) < 262144 by omega)] at hsp
  have hth := fun W (b : Nat) (hg : Grows w W) (hr : Row W b (wkL p sec A k 0) 61) => through_any (hW.grows hg) (hP.grows hg) (MemAt.grows h hg) hr ⟨by omega, by omega⟩ (g := A) (by omega) k
  have d2 : decide (1099511627776 < first) = false := decide_eq_false (by omega)
  have d3 : decide (0 ≤ first) = false := decide_eq_false (by omega)
  obtain ⟨o, ho⟩ : ∃ o, o = oneV N B sec A k true := ⟨_, rfl⟩
  rw [← ho] at hth
  have HO := Lib.hid ho
  have HF := Lib.hid hf
  have HA := Lib.hid hA
  generalize (A : Int) / 8192 = x0 at *
  generalize (A : Int) / 256 % 32 = x1 at *
  generalize (A : Int) % 256 = x2 at *
  clear ho hf hW hP h hA
  cases o with
  | none =>
    have hHTH : ∀ W (b : Nat), Grows w W → Row W b (wkL p sec A k 0) 61 → Calls Tryd.prog 20 #[.pointer (some ⟨b, 0, none⟩), .int .u64 A, .int .i64 k] W fun r w' => r = .returned (.tuple #[.agg #[.int .i64 0, .bool false, .bool false, .bool false, .bool false, .int .i64 0], .agg #[.int .i64 (fltZ k true), .int .u64 A, .int .u64 A]]) ∧ Row w' b (wkL p sec A k 0) 61 ∧ Chg [b] W w' := fun W b hg hr => by have := hth W b hg hr; simpa [fndA, trA, zeroF] using this
    have HTH := Lib.hid hHTH
    have hnt := fun w => neq_trap (fltZ k true) A A 0 0 0 w
    have hz : (fltZ k true == 0) = false := by simp [fltZ_pos]
    rw [hz] at hnt
    simp only [Bool.false_and, Bool.not_false] at hnt
    have HN := Lib.hid (show TwoR N B first sec A k u (.tuple #[.agg zeroF, .agg #[.int .i64 (fltZ k true), .int .u64 A, .int .u64 A]]) from Or.inl ⟨_, A, rfl, fltZ_pos _ _, fun _ _ => ⟨HO.out.symm, rfl, rfl⟩, fun h => absurd HA.out h⟩)
    clear hth hHTH hz
    go_enter Tryd.func6, Tryd.ntmps6
    go_wp2_with fail
    obtain ⟨W1, hW1⟩ : ∃ W1, W1 = ((w.alloc (Obj.cells zeroF 34)).alloc (Obj.cells zeroT 36)).alloc (Obj.cells (wkL p sec A k 0) 61) := ⟨_, rfl⟩
    obtain ⟨b14, hb14⟩ : ∃ b, b = w.heap.size + 2 := ⟨_, rfl⟩
    obtain ⟨b13, hb13⟩ : ∃ b, b = w.heap.size + 1 := ⟨_, rfl⟩
    obtain ⟨b12, hb12⟩ : ∃ b, b = w.heap.size := ⟨_, rfl⟩
    have hr12 : Row W1 b12 zeroF 34 := by rw [hW1, hb12]; exact (Row.new _ _ _).grows (((Grows.refl _).alloc _).alloc _)
    have hr13 : Row W1 b13 zeroT 36 := by rw [hW1]; exact (Row.new_at (w.alloc (Obj.cells zeroF 34)) _ _ (by simp [hb13])).grows ((Grows.refl _).alloc _)
    have hr14 : Row W1 b14 (wkL p sec A k 0) 61 := by rw [hW1]; exact Row.new_at _ _ _ (by simp [hb14])
    have hg1 : Grows w W1 := by rw [hW1]; exact (((Grows.refl _).alloc _).alloc _).alloc _
    have HB := Lib.hid (show w.heap.size ≤ b12 ∧ w.heap.size ≤ b13 ∧ w.heap.size ≤ b14 by omega)
    have n1312 : b13 ≠ b12 := by omega
    have n1412 : b14 ≠ b12 := by omega
    have n1413 : b14 ≠ b13 := by omega
    change Calls _ _ _ (((w.alloc (Obj.cells zeroF 34)).alloc (Obj.cells zeroT 36)).alloc (Obj.cells (wkL p sec A k 0) 61)) _
    rw [← hW1]
    rw [← hb14, ← hb13, ← hb12]
    clear hb14 hb13 hb12 hW1
    refine (fault_any k false W1).mono ?_
    rintro _ _ ⟨rfl, hw⟩
    rw [hw]
    clear hw
    go_wp2_with fail
    obtain ⟨W2, hW2⟩ : ∃ W2, W2 = W1.alloc (Obj.cells #[.int .i64 (fltZ k false), .int .u64 A, .int .u64 0] 36) := ⟨_, rfl⟩
    obtain ⟨b15, hb15⟩ : ∃ b, b = W1.heap.size := ⟨_, rfl⟩
    rw [← hW2, ← hb15]
    have hr15 : Row W2 b15 #[.int .i64 (fltZ k false), .int .u64 A, .int .u64 0] 36 := by rw [hW2]; exact Row.new_at _ _ _ hb15
    have hg12 : Grows W1 W2 := by rw [hW2]; exact (Grows.refl _).alloc _
    have n1215 : b12 ≠ b15 := by have := hr12.lt; omega
    have n1315 : b13 ≠ b15 := by have := hr13.lt; omega
    have n1415 : b14 ≠ b15 := by have := hr14.lt; omega
    clear hW2 hb15
    refine (hsp W2).mono ?_
    rintro _ W3 ⟨rfl, hg23⟩
    have HR12 := Lib.hid ((hr12.grows hg12).grows hg23)
    have HR13 := Lib.hid ((hr13.grows hg12).grows hg23)
    have HRW := Lib.hid ((hr14.grows hg12).grows hg23)
    have HR15 := Lib.hid (hr15.grows hg23)
    have HG := Lib.hid ((hg1.trans hg12).trans hg23)
    clear hr12 hr13 hr14 hr15 hg1 hg12 hg23 hsp
    go_wp2_with fail
    obtain ⟨W4, hW4⟩ : ∃ W4, W4 = W3.alloc (Obj.cells #[.int .i64 0, .bool true, .bool true, .bool true, .bool u, .int .i64 0] 34) := ⟨_, rfl⟩
    obtain ⟨b20, hb20⟩ : ∃ b, b = W3.heap.size := ⟨_, rfl⟩
    rw [← hW4, ← hb20]
    have hg34 : Grows W3 W4 := by rw [hW4]; exact (Grows.refl _).alloc _
    have HR20 := Lib.hid (show Row W4 b20 #[.int .i64 0, .bool true, .bool true, .bool true, .bool u, .int .i64 0] 34 by rw [hW4]; exact Row.new_at _ _ _ hb20)
    have n1420 : b14 ≠ b20 := by have := HRW.out.lt; omega
    have n1220 : b12 ≠ b20 := by have := HR12.out.lt; omega
    have n1320 : b13 ≠ b20 := by have := HR13.out.lt; omega
    have n1520 : b15 ≠ b20 := by have := HR15.out.lt; omega
    have HR124 := Lib.hid (HR12.out.grows hg34)
    have HR134 := Lib.hid (HR13.out.grows hg34)
    have HR154 := Lib.hid (HR15.out.grows hg34)
    have HRW4 := Lib.hid (HRW.out.grows hg34)
    have HG4 := Lib.hid (HG.out.trans hg34)
    clear hW4 hb20 hg34 HR12 HR13 HR15 HRW HG
    have HR12 := Lib.hid HR124.out
    have HR13 := Lib.hid HR134.out
    have HR15 := Lib.hid HR154.out
    have HRW := Lib.hid HRW4.out
    have HG := Lib.hid HG4.out
    clear HR124 HR134 HR154 HRW4 HG4
    refine (HTH.out _ _ HG.out HRW.out).mono ?_
    rintro _ W5 ⟨rfl, hrw5, hc5⟩
    have HR125 := Lib.hid (HR12.out.chg hc5 (by simp; exact n1412.symm))
    have HR135 := Lib.hid (HR13.out.chg hc5 (by simp; exact n1413.symm))
    have HR155 := Lib.hid (HR15.out.chg hc5 (by simp; exact n1415.symm))
    have HRW5 := Lib.hid hrw5
    have HG5 := Lib.hid (hc5.to_grows HG.out (fun x hx => by simp at hx; subst hx; exact HB.out.2.2))
    clear HR12 HR13 HR15 HRW HG hrw5 hc5 HTH
    go_wp2_with fail
    obtain ⟨W6, hW6⟩ : ∃ W6, W6 = (W5.alloc (Obj.cells #[.int .i64 0, .bool false, .bool false, .bool false, .bool false, .int .i64 0] 34)).alloc (Obj.cells #[.int .i64 (fltZ k true), .int .u64 A, .int .u64 A] 36) := ⟨_, rfl⟩
    obtain ⟨b26, hb26⟩ : ∃ b, b = W5.heap.size + 1 := ⟨_, rfl⟩
    rw [← hW6, ← hb26]
    have hg56 : Grows W5 W6 := by rw [hW6]; exact ((Grows.refl _).alloc _).alloc _
    have HR26 := Lib.hid (show Row W6 b26 #[.int .i64 (fltZ k true), .int .u64 A, .int .u64 A] 36 by rw [hW6]; exact Row.new_at _ _ _ (by simp [hb26]))
    have n1226 : b12 ≠ b26 := by have := HR125.out.lt; omega
    have n1326 : b13 ≠ b26 := by have := HR135.out.lt; omega
    have n2612 := n1226.symm
    have n2613 := n1326.symm
    have HR12 := Lib.hid (HR125.out.grows hg56)
    have HR13 := Lib.hid (HR135.out.grows hg56)
    have HG := Lib.hid (HG5.out.trans hg56)
    clear hW6 hb26 hg56 HR125 HR135 HR155 HG5 HRW5
    have l4 := HR12.out.lt
    have f0 := HR12.out.frozen 0
    have f1 := HR12.out.frozen 1
    have f2 := HR12.out.frozen 2
    have f3 := HR12.out.frozen 3
    have f4 := HR12.out.frozen 4
    have f5 := HR12.out.frozen 5
    have k0 := (HR12.out.cell 0).trans (show zeroF[0]? = some (.int .i64 0) from rfl)
    have k1 := (HR12.out.cell 1).trans (show zeroF[1]? = some (.bool false) from rfl)
    have k2 := (HR12.out.cell 2).trans (show zeroF[2]? = some (.bool false) from rfl)
    have k3 := (HR12.out.cell 3).trans (show zeroF[3]? = some (.bool false) from rfl)
    have k4 := (HR12.out.cell 4).trans (show zeroF[4]? = some (.bool false) from rfl)
    have k5 := (HR12.out.cell 5).trans (show zeroF[5]? = some (.int .i64 0) from rfl)
    have l5 := HR13.out.lt
    have g0 := HR13.out.frozen 0
    have g1 := HR13.out.frozen 1
    have g2 := HR13.out.frozen 2
    have m0 := (HR13.out.cell 0).trans (show zeroT[0]? = some (.int .i64 0) from rfl)
    have m1 := (HR13.out.cell 1).trans (show zeroT[1]? = some (.int .u64 0) from rfl)
    have m2 := (HR13.out.cell 2).trans (show zeroT[2]? = some (.int .u64 0) from rfl)
    have ls := HR26.out.lt
    have x0 := (HR26.out.cell 0).trans (show (#[Value.int .i64 (fltZ k true), .int .u64 A, .int .u64 A] : Array Value)[0]? = some (.int .i64 (fltZ k true)) from rfl)
    have x1 := (HR26.out.cell 1).trans (show (#[Value.int .i64 (fltZ k true), .int .u64 A, .int .u64 A] : Array Value)[1]? = some (.int .u64 A) from rfl)
    have x2 := (HR26.out.cell 2).trans (show (#[Value.int .i64 (fltZ k true), .int .u64 A, .int .u64 A] : Array Value)[2]? = some (.int .u64 A) from rfl)
    go_region
    all_goals
      clear l4 f0 f1 f2 f3 f4 f5 k0 k1 k2 k3 k4 k5 l5 g0 g1 g2 m0 m1 m2 ls x0 x1 x2
      go_wp2_with fail
      have hF12 := ((row_over3 (row_fill6 HR12.out 0 0 false false false false) n1312 (fltZ k true) A A).grows ((Grows.refl _).drew)).cell
      have hF13 := ((row_fill3 (row_over6 HR13.out n1312.symm 0 0 false false false false) (fltZ k true) A A).grows ((Grows.refl _).drew)).cell
      exact bodyPost_ret (v := .tuple #[.agg zeroF, .agg #[.int .i64 (fltZ k true), .int .u64 A, .int .u64 A]]) (by simp [results, Tryd.results6, go_sem, hF12, hF13, zeroF]) rfl ⟨⟨_, rfl, HN.out⟩, (grows_fill3 (grows_fill6 HG.out HB.out.1 _ _ _ _ _ _) HB.out.2.1 _ _ _).drew⟩
  | some v =>
    have hHTH : ∀ W (b : Nat), Grows w W → Row W b (wkL p sec A k 0) 61 → Calls Tryd.prog 20 #[.pointer (some ⟨b, 0, none⟩), .int .u64 A, .int .i64 k] W fun r w' => r = .returned (.tuple #[.agg #[.int .i64 (ef v), .bool (eb v 1), .bool (eb v 2), .bool (eb v 3), .bool (eb v 4), .int .i64 2], .agg #[.int .i64 0, .int .u64 0, .int .u64 0]]) ∧ Row w' b (wkL p sec A k 2) 61 ∧ Chg [b] W w' := fun W b hg hr => by have := hth W b hg hr; simpa [fndA, trA, zeroT] using this
    have HTH := Lib.hid hHTH
    have hnt := fun w => neq_trap 0 0 0 0 0 0 w
    simp only [beq_self_eq_true, Bool.and_self, Bool.not_true] at hnt
    have HY := Lib.hid (show TwoR N B first sec A k u (.tuple #[.agg #[.int .i64 (ef v), .bool (true && eb v 1), .bool (true && eb v 2), .bool (true && eb v 3), .bool u, .int .i64 2], .agg zeroT]) from Or.inr ⟨v, A, true, true, true, u, 2, rfl, HO.out.symm, fun _ => rfl, fun _ => rfl, fun _ => rfl, rfl, HA.out, fun _ => ⟨rfl, rfl, rfl, rfl, rfl⟩⟩)
    clear hth hHTH
    generalize (ef v : Int) = n at *
    generalize eb v 1 = e1 at *
    generalize eb v 2 = e2 at *
    generalize eb v 3 = e3 at *
    generalize eb v 4 = e4 at *
    go_enter Tryd.func6, Tryd.ntmps6
    go_wp2_with fail
    obtain ⟨W1, hW1⟩ : ∃ W1, W1 = ((w.alloc (Obj.cells zeroF 34)).alloc (Obj.cells zeroT 36)).alloc (Obj.cells (wkL p sec A k 0) 61) := ⟨_, rfl⟩
    obtain ⟨b14, hb14⟩ : ∃ b, b = w.heap.size + 2 := ⟨_, rfl⟩
    obtain ⟨b13, hb13⟩ : ∃ b, b = w.heap.size + 1 := ⟨_, rfl⟩
    obtain ⟨b12, hb12⟩ : ∃ b, b = w.heap.size := ⟨_, rfl⟩
    have hr12 : Row W1 b12 zeroF 34 := by rw [hW1, hb12]; exact (Row.new _ _ _).grows (((Grows.refl _).alloc _).alloc _)
    have hr13 : Row W1 b13 zeroT 36 := by rw [hW1]; exact (Row.new_at (w.alloc (Obj.cells zeroF 34)) _ _ (by simp [hb13])).grows ((Grows.refl _).alloc _)
    have hr14 : Row W1 b14 (wkL p sec A k 0) 61 := by rw [hW1]; exact Row.new_at _ _ _ (by simp [hb14])
    have hg1 : Grows w W1 := by rw [hW1]; exact (((Grows.refl _).alloc _).alloc _).alloc _
    have HB := Lib.hid (show w.heap.size ≤ b12 ∧ w.heap.size ≤ b13 ∧ w.heap.size ≤ b14 by omega)
    have n1312 : b13 ≠ b12 := by omega
    have n1412 : b14 ≠ b12 := by omega
    have n1413 : b14 ≠ b13 := by omega
    change Calls _ _ _ (((w.alloc (Obj.cells zeroF 34)).alloc (Obj.cells zeroT 36)).alloc (Obj.cells (wkL p sec A k 0) 61)) _
    rw [← hW1]
    rw [← hb14, ← hb13, ← hb12]
    clear hb14 hb13 hb12 hW1
    refine (fault_any k false W1).mono ?_
    rintro _ _ ⟨rfl, hw⟩
    rw [hw]
    clear hw
    go_wp2_with fail
    obtain ⟨W2, hW2⟩ : ∃ W2, W2 = W1.alloc (Obj.cells #[.int .i64 (fltZ k false), .int .u64 A, .int .u64 0] 36) := ⟨_, rfl⟩
    obtain ⟨b15, hb15⟩ : ∃ b, b = W1.heap.size := ⟨_, rfl⟩
    rw [← hW2, ← hb15]
    have hr15 : Row W2 b15 #[.int .i64 (fltZ k false), .int .u64 A, .int .u64 0] 36 := by rw [hW2]; exact Row.new_at _ _ _ hb15
    have hg12 : Grows W1 W2 := by rw [hW2]; exact (Grows.refl _).alloc _
    have n1215 : b12 ≠ b15 := by have := hr12.lt; omega
    have n1315 : b13 ≠ b15 := by have := hr13.lt; omega
    have n1415 : b14 ≠ b15 := by have := hr14.lt; omega
    clear hW2 hb15
    refine (hsp W2).mono ?_
    rintro _ W3 ⟨rfl, hg23⟩
    have HR12 := Lib.hid ((hr12.grows hg12).grows hg23)
    have HR13 := Lib.hid ((hr13.grows hg12).grows hg23)
    have HRW := Lib.hid ((hr14.grows hg12).grows hg23)
    have HR15 := Lib.hid (hr15.grows hg23)
    have HG := Lib.hid ((hg1.trans hg12).trans hg23)
    clear hr12 hr13 hr14 hr15 hg1 hg12 hg23 hsp
    go_wp2_with fail
    obtain ⟨W4, hW4⟩ : ∃ W4, W4 = W3.alloc (Obj.cells #[.int .i64 0, .bool true, .bool true, .bool true, .bool u, .int .i64 0] 34) := ⟨_, rfl⟩
    obtain ⟨b20, hb20⟩ : ∃ b, b = W3.heap.size := ⟨_, rfl⟩
    rw [← hW4, ← hb20]
    have hg34 : Grows W3 W4 := by rw [hW4]; exact (Grows.refl _).alloc _
    have HR20 := Lib.hid (show Row W4 b20 #[.int .i64 0, .bool true, .bool true, .bool true, .bool u, .int .i64 0] 34 by rw [hW4]; exact Row.new_at _ _ _ hb20)
    have n1420 : b14 ≠ b20 := by have := HRW.out.lt; omega
    have n1220 : b12 ≠ b20 := by have := HR12.out.lt; omega
    have n1320 : b13 ≠ b20 := by have := HR13.out.lt; omega
    have n1520 : b15 ≠ b20 := by have := HR15.out.lt; omega
    have HR124 := Lib.hid (HR12.out.grows hg34)
    have HR134 := Lib.hid (HR13.out.grows hg34)
    have HR154 := Lib.hid (HR15.out.grows hg34)
    have HRW4 := Lib.hid (HRW.out.grows hg34)
    have HG4 := Lib.hid (HG.out.trans hg34)
    clear hW4 hb20 hg34 HR12 HR13 HR15 HRW HG
    have HR12 := Lib.hid HR124.out
    have HR13 := Lib.hid HR134.out
    have HR15 := Lib.hid HR154.out
    have HRW := Lib.hid HRW4.out
    have HG := Lib.hid HG4.out
    clear HR124 HR134 HR154 HRW4 HG4
    refine (HTH.out _ _ HG.out HRW.out).mono ?_
    rintro _ W5 ⟨rfl, hrw5, hc5⟩
    have HR125 := Lib.hid (HR12.out.chg hc5 (by simp; exact n1412.symm))
    have HR135 := Lib.hid (HR13.out.chg hc5 (by simp; exact n1413.symm))
    have HR155 := Lib.hid (HR15.out.chg hc5 (by simp; exact n1415.symm))
    have HRW5 := Lib.hid hrw5
    have HG5 := Lib.hid (hc5.to_grows HG.out (fun x hx => by simp at hx; subst hx; exact HB.out.2.2))
    have HR205 := Lib.hid (HR20.out.chg hc5 (by simp; exact n1420.symm))
    clear HR12 HR13 HR15 HRW HG HR20 hrw5 hc5 HTH
    go_wp2_with fail
    obtain ⟨W6, hW6⟩ : ∃ W6, W6 = (W5.alloc (Obj.cells #[.int .i64 n, .bool e1, .bool e2, .bool e3, .bool e4, .int .i64 2] 34)).alloc (Obj.cells #[.int .i64 0, .int .u64 0, .int .u64 0] 36) := ⟨_, rfl⟩
    obtain ⟨b26, hb26⟩ : ∃ b, b = W5.heap.size + 1 := ⟨_, rfl⟩
    obtain ⟨b25, hb25⟩ : ∃ b, b = W5.heap.size := ⟨_, rfl⟩
    rw [← hW6, ← hb26, ← hb25]
    have hg56 : Grows W5 W6 := by rw [hW6]; exact ((Grows.refl _).alloc _).alloc _
    have HR25 := Lib.hid (show Row W6 b25 #[.int .i64 n, .bool e1, .bool e2, .bool e3, .bool e4, .int .i64 2] 34 by rw [hW6, hb25]; exact (Row.new _ _ _).grows ((Grows.refl _).alloc _))
    have n1225 : b12 ≠ b25 := by have := HR125.out.lt; omega
    have n1325 : b13 ≠ b25 := by have := HR135.out.lt; omega
    have HR12 := Lib.hid (HR125.out.grows hg56)
    have HR13 := Lib.hid (HR135.out.grows hg56)
    have HRW := Lib.hid (HRW5.out.grows hg56)
    have HR20 := Lib.hid (HR205.out.grows hg56)
    have HG := Lib.hid (HG5.out.trans hg56)
    clear hW6 hb26 hb25 hg56 HR125 HR135 HR155 HG5 HRW5 HR205
    have l4 := HR12.out.lt
    have f0 := HR12.out.frozen 0
    have f1 := HR12.out.frozen 1
    have f2 := HR12.out.frozen 2
    have f3 := HR12.out.frozen 3
    have f4 := HR12.out.frozen 4
    have f5 := HR12.out.frozen 5
    have k0 := (HR12.out.cell 0).trans (show zeroF[0]? = some (.int .i64 0) from rfl)
    have k1 := (HR12.out.cell 1).trans (show zeroF[1]? = some (.bool false) from rfl)
    have k2 := (HR12.out.cell 2).trans (show zeroF[2]? = some (.bool false) from rfl)
    have k3 := (HR12.out.cell 3).trans (show zeroF[3]? = some (.bool false) from rfl)
    have k4 := (HR12.out.cell 4).trans (show zeroF[4]? = some (.bool false) from rfl)
    have k5 := (HR12.out.cell 5).trans (show zeroF[5]? = some (.int .i64 0) from rfl)
    have l5 := HR13.out.lt
    have g0 := HR13.out.frozen 0
    have g1 := HR13.out.frozen 1
    have g2 := HR13.out.frozen 2
    have m0 := (HR13.out.cell 0).trans (show zeroT[0]? = some (.int .i64 0) from rfl)
    have m1 := (HR13.out.cell 1).trans (show zeroT[1]? = some (.int .u64 0) from rfl)
    have m2 := (HR13.out.cell 2).trans (show zeroT[2]? = some (.int .u64 0) from rfl)
    have l25 := HR25.out.lt
    have lw := HRW.out.lt
    have l20 := HR20.out.lt
    have HS := Lib.hid (fun (w' : World) (h25 : Row w' b25 #[.int .i64 n, .bool e1, .bool e2, .bool e3, .bool e4, .int .i64 2] 34) (h20 : Row w' b20 #[.int .i64 0, .bool true, .bool true, .bool true, .bool u, .int .i64 0] 34) (h14 : Row w' b14 (wkL p sec A k 2) 61) => (⟨h25.cell 0, h25.cell 1, h25.cell 2, h25.cell 3, h20.cell 1, h20.cell 2, h20.cell 3, h20.cell 4, h14.cell 4⟩ : w'.cell? ⟨b25, 0, none⟩ = some (.int .i64 n) ∧ w'.cell? ⟨b25, 1, none⟩ = some (.bool e1) ∧ w'.cell? ⟨b25, 2, none⟩ = some (.bool e2) ∧ w'.cell? ⟨b25, 3, none⟩ = some (.bool e3) ∧ w'.cell? ⟨b20, 1, none⟩ = some (.bool true) ∧ w'.cell? ⟨b20, 2, none⟩ = some (.bool true) ∧ w'.cell? ⟨b20, 3, none⟩ = some (.bool true) ∧ w'.cell? ⟨b20, 4, none⟩ = some (.bool u) ∧ w'.cell? ⟨b14, 4, none⟩ = some (.int .i64 2)))
    have HSD := Lib.hid (HS.out W6.drew (HR25.out.grows ((Grows.refl _).drew)) (HR20.out.grows ((Grows.refl _).drew)) (HRW.out.grows ((Grows.refl _).drew)))
    have HS6 := Lib.hid (fun (m x : Int) (y1 y2 y3 y4 : Bool) => HS.out _ ((row_over6 HR25.out n1225 m x y1 y2 y3 y4).grows ((Grows.refl _).drew)) ((row_over6 HR20.out n1220 m x y1 y2 y3 y4).grows ((Grows.refl _).drew)) ((row_over6 HRW.out (fun e => n1412 e.symm) m x y1 y2 y3 y4).grows ((Grows.refl _).drew)))
    have HS9 := Lib.hid (fun (m x : Int) (y1 y2 y3 y4 : Bool) => HS.out _ ((row_over3 (row_over6 HR25.out n1225 m x y1 y2 y3 y4) n1325 0 0 0).grows ((Grows.refl _).drew)) ((row_over3 (row_over6 HR20.out n1220 m x y1 y2 y3 y4) n1320 0 0 0).grows ((Grows.refl _).drew)) ((row_over3 (row_over6 HRW.out (fun e => n1412 e.symm) m x y1 y2 y3 y4) (fun e => n1413 e.symm) 0 0 0).grows ((Grows.refl _).drew)))
    go_region_held3 (fun w' => w'.cell? ⟨b25, 0, none⟩ = some (.int .i64 n) ∧ w'.cell? ⟨b25, 1, none⟩ = some (.bool e1) ∧ w'.cell? ⟨b25, 2, none⟩ = some (.bool e2) ∧ w'.cell? ⟨b25, 3, none⟩ = some (.bool e3) ∧ w'.cell? ⟨b20, 1, none⟩ = some (.bool true) ∧ w'.cell? ⟨b20, 2, none⟩ = some (.bool true) ∧ w'.cell? ⟨b20, 3, none⟩ = some (.bool true) ∧ w'.cell? ⟨b20, 4, none⟩ = some (.bool u) ∧ w'.cell? ⟨b14, 4, none⟩ = some (.int .i64 2)) (first
      | with_reducible exact HSD.out
      | with_reducible exact HS6.out _ _ _ _ _ _
      | with_reducible exact HS9.out _ _ _ _ _ _) (first | fail)
    all_goals
      rename_i hHeldX
      clear hHeldX HS HSD HS6 HS9 l4 f0 f1 f2 f3 f4 f5 k0 k1 k2 k3 k4 k5 l5 g0 g1 g2 m0 m1 m2 l25 lw l20
      go_wp2_with fail
      have hF12 := ((row_over3 (row_fill6 HR12.out n 2 (true && e1) (true && e2) (true && e3) u) n1312 0 0 0).grows ((Grows.refl _).drew)).cell
      have hF13 := ((row_fill3 (row_over6 HR13.out n1312.symm n 2 (true && e1) (true && e2) (true && e3) u) 0 0 0).grows ((Grows.refl _).drew)).cell
      simp only [Bool.true_and, Bool.false_and] at hF12 hF13
      exact bodyPost_ret (v := .tuple #[.agg #[.int .i64 n, .bool (true && e1), .bool (true && e2), .bool (true && e3), .bool u, .int .i64 2], .agg zeroT]) (by simp [results, Tryd.results6, go_sem, hF12, hF13, zeroT]) rfl ⟨⟨_, rfl, HY.out⟩, (grows_fill3 (grows_fill6 HG.out HB.out.1 _ _ _ _ _ _) HB.out.2.1 _ _ _).drew⟩
end Go.Proofs.YtnkmelhggnelmaaDoor
