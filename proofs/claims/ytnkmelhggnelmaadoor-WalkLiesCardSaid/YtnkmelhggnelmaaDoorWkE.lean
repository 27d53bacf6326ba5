/- The package walk over a memory: Two, with a first stage. -/
import Derived.Test.YtnkmelhggnelmaaDoorWkD
import Derived.Deep.RegionHeld3
import Derived.Deep.DeepCutAuto
import Derived.Deep.CutRange
namespace Go.Proofs.YtnkmelhggnelmaaDoor
open Go Go.RowKit
set_option linter.unusedSimpArgs false
set_option linter.unusedVariables false
set_option maxRecDepth 100000
theorem own_of {a b c d e : Bool} {k : Int} {u : Bool} (h : allowsB a b c d e k u = true) : (k = 0 → d = true) ∧ (k = 1 → b = true) ∧ (k = 2 → c = true) ∧ e = u := by
  unfold allowsB ok3 at h
  refine ⟨?_, ?_, ?_, ?_⟩
  · intro hk; subst hk; cases d <;> simp_all
  · intro hk; subst hk; cases b <;> simp_all
  · intro hk; subst hk; cases c <;> simp_all
  · cases e <;> cases u <;> simp_all
theorem row_put6 {w : World} {b : Nat} {t : TypeId} {x0 x1 x2 x3 x4 x5 : Value} (h : Row w b #[x0, x1, x2, x3, x4, x5] t) (n k : Int) (b1 b2 b3 b4 : Bool) :
    Row ((((((w.setCell ⟨b, 0, none⟩ (.int .i64 n)).setCell ⟨b, 1, none⟩ (.bool b1)).setCell ⟨b, 2, none⟩ (.bool b2)).setCell ⟨b, 3, none⟩ (.bool b3)).setCell ⟨b, 4, none⟩ (.bool b4)).setCell ⟨b, 5, none⟩ (.int .i64 k)) b #[.int .i64 n, .bool b1, .bool b2, .bool b3, .bool b4, .int .i64 k] t := by
  have h0 := row_setCell h (i := 0) (by simp) (.int .i64 n)
  have h1 := row_setCell h0 (i := 1) (by simp) (.bool b1)
  have h2 := row_setCell h1 (i := 2) (by simp) (.bool b2)
  have h3 := row_setCell h2 (i := 3) (by simp) (.bool b3)
  have h4 := row_setCell h3 (i := 4) (by simp) (.bool b4)
  have h5 := row_setCell h4 (i := 5) (by simp) (.int .i64 k)
  simpa using h5
theorem row_put3 {w : World} {b : Nat} {t : TypeId} {x0 x1 x2 : Value} (h : Row w b #[x0, x1, x2] t) (x y z : Int) :
    Row (((w.setCell ⟨b, 0, none⟩ (.int .i64 x)).setCell ⟨b, 1, none⟩ (.int .u64 y)).setCell ⟨b, 2, none⟩ (.int .u64 z)) b #[.int .i64 x, .int .u64 y, .int .u64 z] t := by
  have h0 := row_setCell h (i := 0) (by simp) (.int .i64 x)
  have h1 := row_setCell h0 (i := 1) (by simp) (.int .u64 y)
  have h2 := row_setCell h1 (i := 2) (by simp) (.int .u64 z)
  simpa using h2
theorem entA_L (v : Nat) : entA v = #[.bool (eb v 0), .bool (eb v 1), .bool (eb v 2), .bool (eb v 3), .bool (eb v 4), .bool (eb v 5), .bool (eb v 6), .int .i64 (ef v)] := rfl
theorem entA_0 : entA 0 = #[.bool false, .bool false, .bool false, .bool false, .bool false, .bool false, .bool false, .int .i64 0] := by simp [entA, gok0, eb, ef]
set_option maxHeartbeats 16000000 in
theorem two_pos {w : World} {p q N : Nat} {B : Nat → Nat} (hW : Widths w) (hP : Places w) (h : Mem w p q N B) {fi : Nat} (sec : Int) {A : Nat} (hA : A < 262144) (k : Int) (u : Bool) (hf : fi ≤ 1099511627776) :
    Calls Tryd.prog 6 #[rdr p, .int .i64 fi, .int .i64 sec, .int .u64 A, .int .i64 k, .bool u] w fun r w' => (∃ v, r = .returned v ∧ TwoR N B fi sec A k u v) ∧ Grows w w' := by
  unfold rdr
  have hsp := fun W => split_any A (by omega) (by omega) W
  rw [if_pos (show (A : Int) < 262144 by omega)] at hsp
  obtain ⟨up, hup, hup32⟩ : ∃ up : Nat, up = A / 8192 ∧ up < 32 := ⟨_, rfl, by omega⟩
  obtain ⟨lo, hlo, hlo32⟩ : ∃ lo : Nat, lo = A / 256 % 32 ∧ lo < 32 := ⟨_, rfl, by omega⟩
  obtain ⟨off, hoff, hoff256⟩ : ∃ off : Nat, off = A % 256 ∧ off < 256 := ⟨_, rfl, by omega⟩
  rw [show (A : Int) / 8192 = (up : Int) by omega, show (A : Int) / 256 % 32 = (lo : Int) by omega, show (A : Int) % 256 = (off : Int) by omega] at hsp
  have d2 : decide (1099511627776 < (fi : Int)) = false := decide_eq_false (by omega)
  have d3 : decide (0 ≤ (fi : Int)) = true := decide_eq_true (by omega)
  have hrd1 := fun W (b : Nat) (hg : Grows w W) (hwb : w.heap.size ≤ b) (hr : Row W b (wkL p sec A k 0) 61) => read_any hW hP h hg hwb hr ⟨by omega, by omega⟩ hf hup32
  have hrd2 := fun (v : Nat) W (b : Nat) (hg : Grows w W) (hwb : w.heap.size ≤ b) (hr : Row W b (wkL p sec A k 3) 61) => read_any hW hP h hg hwb hr ⟨by omega, by omega⟩ (t := ef v) (by have := ef_lt v; omega) hlo32
  have hth := fun (g : Nat) (hg64 : g < 18446744073709551616) W (b : Nat) (hg : Grows w W) (hr : Row W b (wkL p sec A k 6) 61) => through_any (hW.grows hg) (hP.grows hg) (MemAt.grows h hg) hr ⟨by omega, by omega⟩ hg64 k
  obtain ⟨ow1, how1⟩ : ∃ ow1, ow1 = fi * 256 + 8 * up := ⟨_, rfl⟩
  obtain ⟨o1, ho1⟩ : ∃ o, o = oneV N B sec ow1 1 true := ⟨_, rfl⟩
  have HN := Lib.hid (show ∀ (c : Int) (g : Nat), c ≠ 0 → TwoR N B fi sec A k u (.tuple #[.agg zeroF, .agg #[.int .i64 c, .int .u64 A, .int .u64 g]]) from fun c g hc => Or.inl ⟨c, g, rfl, hc, fun h1 => absurd h1 (by omega), fun h1 => absurd hA h1⟩)
  rw [← how1, ← ho1] at hrd1
  have HA := Lib.hid hA
  have HRD2 := Lib.hid hrd2
  have HTH0 := Lib.hid hth
  have HOF := Lib.hid hoff256
  clear how1 ho1 hup hlo hoff hup32 hoff256 hA hf hrd2 hth hW hP h hlo32
  cases o1 with
  | none =>
    have HRD := Lib.hid (show ∀ W (b : Nat), Grows w W → w.heap.size ≤ b → Row W b (wkL p sec A k 0) 61 → Calls Tryd.prog 16 #[.pointer (some ⟨b, 0, none⟩), .int .i64 fi, .int .i64 up] W fun r w' => r = .returned (.tuple #[.agg #[.bool false, .bool false, .bool false, .bool false, .bool false, .bool false, .bool false, .int .i64 0], .bool false, .agg #[.int .i64 (fltZ k true), .int .u64 A, .int .u64 ow1]]) ∧ Row w' b (wkL p sec A k 0) 61 ∧ Chg [b] W w' from fun W b h1 h2 h3 => by have := hrd1 W b h1 h2 h3; rw [show rdE N B none ow1 = 0 from rfl, entA_0, gok0] at this; simpa [trA] using this)
    have hnt := fun w => neq_trap (fltZ k true) A ow1 0 0 0 w
    have hz : (fltZ k true == 0) = false := by simp [fltZ_pos]
    rw [hz] at hnt
    simp only [Bool.false_and, Bool.not_false] at hnt
    clear hrd1 hz HRD2 HTH0
    go_enter Tryd.func6, Tryd.ntmps6
    go_wp2_with fail
    obtain ⟨W1, hW1⟩ : ∃ W1, W1 = ((w.alloc (Obj.cells zeroF 34)).alloc (Obj.cells zeroT 36)).alloc (Obj.cells (wkL p sec A k 0) 61) := ⟨_, rfl⟩
    obtain ⟨b14, hb14⟩ : ∃ b, b = w.heap.size + 2 := ⟨_, rfl⟩
    obtain ⟨b13, hb13⟩ : ∃ b, b = w.heap.size + 1 := ⟨_, rfl⟩
    obtain ⟨b12, hb12⟩ : ∃ b, b = w.heap.size := ⟨_, rfl⟩
    have hr12 : Row W1 b12 zeroF 34 := by rw [hW1, hb12]; exact (Row.new _ _ _).grows (((Grows.refl _).alloc _).alloc _)
    have hr13 : Row W1 b13 zeroT 36 := by rw [hW1]; exact (Row.new_at (w.alloc (Obj.cells zeroF 34)) _ _ (by simp [hb13])).grows ((Grows.refl _).alloc _)
    have hr14 : Row W1 b14 (wkL p sec A k 0) 61 := by rw [hW1]; exact Row.new_at _ _ _ (by simp [hb14])
    have hg1 : Grows w W1 := by rw [hW1]; exact (((Grows.refl _).alloc _).alloc _).alloc _
    have HB := Lib.hid (show w.heap.size ≤ b12 ∧ w.heap.size ≤ b13 ∧ w.heap.size ≤ b14 by omega)
    have n1312 : b13 ≠ b12 := by omega
    have n1412 : b14 ≠ b12 := by omega
    have n1413 : b14 ≠ b13 := by omega
    change Calls _ _ _ (((w.alloc (Obj.cells zeroF 34)).alloc (Obj.cells zeroT 36)).alloc (Obj.cells (wkL p sec A k 0) 61)) _
    rw [← hW1]
    rw [← hb14, ← hb13, ← hb12]
    clear hb14 hb13 hb12 hW1
    refine (fault_any k false W1).mono ?_
    rintro _ _ ⟨rfl, hw⟩
    rw [hw]
    clear hw
    go_wp2_with fail
    obtain ⟨W2, hW2⟩ : ∃ W2, W2 = W1.alloc (Obj.cells #[.int .i64 (fltZ k false), .int .u64 A, .int .u64 0] 36) := ⟨_, rfl⟩
    obtain ⟨b15, hb15⟩ : ∃ b, b = W1.heap.size := ⟨_, rfl⟩
    rw [← hW2, ← hb15]
    have hr15 : Row W2 b15 #[.int .i64 (fltZ k false), .int .u64 A, .int .u64 0] 36 := by rw [hW2]; exact Row.new_at _ _ _ hb15
    have hg12 : Grows W1 W2 := by rw [hW2]; exact (Grows.refl _).alloc _
    have n1215 : b12 ≠ b15 := by have := hr12.lt; omega
    have n1315 : b13 ≠ b15 := by have := hr13.lt; omega
    have n1415 : b14 ≠ b15 := by have := hr14.lt; omega
    clear hW2 hb15
    refine (hsp W2).mono ?_
    rintro _ W3 ⟨rfl, hg23⟩
    have HR12 := Lib.hid ((hr12.grows hg12).grows hg23)
    have HR13 := Lib.hid ((hr13.grows hg12).grows hg23)
    have HRW := Lib.hid ((hr14.grows hg12).grows hg23)
    have HR15 := Lib.hid (hr15.grows hg23)
    have HG := Lib.hid ((hg1.trans hg12).trans hg23)
    clear hr12 hr13 hr14 hr15 hg1 hg12 hg23 hsp
    go_wp2_with fail
    obtain ⟨W4, hW4⟩ : ∃ W4, W4 = W3.alloc (Obj.cells #[.int .i64 0, .bool true, .bool true, .bool true, .bool u, .int .i64 0] 34) := ⟨_, rfl⟩
    obtain ⟨b20, hb20⟩ : ∃ b, b = W3.heap.size := ⟨_, rfl⟩
    rw [← hW4, ← hb20]
    have hg34 : Grows W3 W4 := by rw [hW4]; exact (Grows.refl _).alloc _
    have HR20 := Lib.hid (show Row W4 b20 #[.int .i64 0, .bool true, .bool true, .bool true, .bool u, .int .i64 0] 34 by rw [hW4]; exact Row.new_at _ _ _ hb20)
    have n1420 : b14 ≠ b20 := by have := HRW.out.lt; omega
    have HB20 := Lib.hid (show w.heap.size ≤ b20 by have := HG.out.size; omega)
    have n1220 : b12 ≠ b20 := by have := HR12.out.lt; omega
    have n1320 : b13 ≠ b20 := by have := HR13.out.lt; omega
    have n1520 : b15 ≠ b20 := by have := HR15.out.lt; omega
    have HR124 := Lib.hid (HR12.out.grows hg34)
    have HR134 := Lib.hid (HR13.out.grows hg34)
    have HR154 := Lib.hid (HR15.out.grows hg34)
    have HRW4 := Lib.hid (HRW.out.grows hg34)
    have HG4 := Lib.hid (HG.out.trans hg34)
    clear hW4 hb20 hg34 HR12 HR13 HR15 HRW HG
    have HR12 := Lib.hid HR124.out
    have HR13 := Lib.hid HR134.out
    have HR15 := Lib.hid HR154.out
    have HRW := Lib.hid HRW4.out
    have HG := Lib.hid HG4.out
    clear HR124 HR134 HR154 HRW4 HG4
    refine (HRD.out _ _ HG.out HB.out.2.2 HRW.out).mono ?_
    rintro _ W5 ⟨rfl, hrw5, hc5⟩
    have HR125 := Lib.hid (HR12.out.chg hc5 (by simp; exact n1412.symm))
    have HR135 := Lib.hid (HR13.out.chg hc5 (by simp; exact n1413.symm))
    have HR155 := Lib.hid (HR15.out.chg hc5 (by simp; exact n1415.symm))
    have HRW5 := Lib.hid hrw5
    have HG5 := Lib.hid (hc5.to_grows HG.out (fun x hx => by simp at hx; subst hx; exact HB.out.2.2))
    have HR205 := Lib.hid (HR20.out.chg hc5 (by simp; exact n1420.symm))
    clear HR12 HR13 HR15 HRW HG HR20 hrw5 hc5 HRD
    go_upto_region 9 with fail
    obtain ⟨W6, hW6⟩ : ∃ W6, W6 = (W5.alloc (Obj.cells #[.bool false, .bool false, .bool false, .bool false, .bool false, .bool false, .bool false, .int .i64 0] 26)).alloc (Obj.cells #[.int .i64 (fltZ k true), .int .u64 A, .int .u64 ow1] 36) := ⟨_, rfl⟩
    obtain ⟨b24, hb24⟩ : ∃ b, b = W5.heap.size + 1 := ⟨_, rfl⟩
    obtain ⟨b22, hb22⟩ : ∃ b, b = W5.heap.size := ⟨_, rfl⟩
    rw [← hW6, ← hb24, ← hb22]
    have hg56 : Grows W5 W6 := by rw [hW6]; exact ((Grows.refl _).alloc _).alloc _
    have HR22 := Lib.hid (show Row W6 b22 #[.bool false, .bool false, .bool false, .bool false, .bool false, .bool false, .bool false, .int .i64 0] 26 by rw [hW6, hb22]; exact (Row.new _ _ _).grows ((Grows.refl _).alloc _))
    have HR24 := Lib.hid (show Row W6 b24 #[.int .i64 (fltZ k true), .int .u64 A, .int .u64 ow1] 36 by rw [hW6]; exact Row.new_at _ _ _ (by simp [hb24]))
    have n1222 : b12 ≠ b22 := by have := HR125.out.lt; omega
    have n1224 : b12 ≠ b24 := by have := HR125.out.lt; omega
    have n1322 : b13 ≠ b22 := by have := HR135.out.lt; omega
    have n1324 : b13 ≠ b24 := by have := HR135.out.lt; omega
    have n1422 : b14 ≠ b22 := by have := HRW5.out.lt; omega
    have n1424 : b14 ≠ b24 := by have := HRW5.out.lt; omega
    have n1522 : b15 ≠ b22 := by have := HR155.out.lt; omega
    have n1524 : b15 ≠ b24 := by have := HR155.out.lt; omega
    have n2022 : b20 ≠ b22 := by have := HR205.out.lt; omega
    have n2024 : b20 ≠ b24 := by have := HR205.out.lt; omega
    have n2224 : b22 ≠ b24 := by omega
    have n2412 := n1224.symm
    have n2413 := n1324.symm
    have HR12 := Lib.hid (HR125.out.grows hg56)
    have HR13 := Lib.hid (HR135.out.grows hg56)
    have HR15 := Lib.hid (HR155.out.grows hg56)
    have HR20 := Lib.hid (HR205.out.grows hg56)
    have HRW := Lib.hid (HRW5.out.grows hg56)
    have HG := Lib.hid (HG5.out.trans hg56)
    have HB22 := Lib.hid (show w.heap.size ≤ b22 ∧ w.heap.size ≤ b24 by have := HG5.out.size; omega)
    clear hW6 hb24 hb22 hg56 HR125 HR135 HR155 HG5 HRW5 HR205
    have q0 := (HR24.out.cell 0).trans (show (#[Value.int .i64 (fltZ k true), .int .u64 A, .int .u64 ow1] : Array Value)[0]? = some (.int .i64 (fltZ k true)) from rfl)
    have q1 := (HR24.out.cell 1).trans (show (#[Value.int .i64 (fltZ k true), .int .u64 A, .int .u64 ow1] : Array Value)[1]? = some (.int .u64 A) from rfl)
    have q2 := (HR24.out.cell 2).trans (show (#[Value.int .i64 (fltZ k true), .int .u64 A, .int .u64 ow1] : Array Value)[2]? = some (.int .u64 ow1) from rfl)
    have q3 := HR24.out.lt
    go_wp2_with fail
    clear q0 q1 q2 q3
    have l4 := HR12.out.lt
    have f0 := HR12.out.frozen 0
    have f1 := HR12.out.frozen 1
    have f2 := HR12.out.frozen 2
    have f3 := HR12.out.frozen 3
    have f4 := HR12.out.frozen 4
    have f5 := HR12.out.frozen 5
    have k0 := (HR12.out.cell 0).trans (show zeroF[0]? = some (.int .i64 0) from rfl)
    have k1 := (HR12.out.cell 1).trans (show zeroF[1]? = some (.bool false) from rfl)
    have k2 := (HR12.out.cell 2).trans (show zeroF[2]? = some (.bool false) from rfl)
    have k3 := (HR12.out.cell 3).trans (show zeroF[3]? = some (.bool false) from rfl)
    have k4 := (HR12.out.cell 4).trans (show zeroF[4]? = some (.bool false) from rfl)
    have k5 := (HR12.out.cell 5).trans (show zeroF[5]? = some (.int .i64 0) from rfl)
    have l5 := HR13.out.lt
    have g0 := HR13.out.frozen 0
    have g1 := HR13.out.frozen 1
    have g2 := HR13.out.frozen 2
    have m0 := (HR13.out.cell 0).trans (show zeroT[0]? = some (.int .i64 0) from rfl)
    have m1 := (HR13.out.cell 1).trans (show zeroT[1]? = some (.int .u64 0) from rfl)
    have m2 := (HR13.out.cell 2).trans (show zeroT[2]? = some (.int .u64 0) from rfl)
    have ls := HR24.out.lt
    have x0 := (HR24.out.cell 0).trans (show (#[Value.int .i64 (fltZ k true), .int .u64 A, .int .u64 ow1] : Array Value)[0]? = some (.int .i64 (fltZ k true)) from rfl)
    have x1 := (HR24.out.cell 1).trans (show (#[Value.int .i64 (fltZ k true), .int .u64 A, .int .u64 ow1] : Array Value)[1]? = some (.int .u64 A) from rfl)
    have x2 := (HR24.out.cell 2).trans (show (#[Value.int .i64 (fltZ k true), .int .u64 A, .int .u64 ow1] : Array Value)[2]? = some (.int .u64 ow1) from rfl)
    go_region
    all_goals
      clear l4 f0 f1 f2 f3 f4 f5 k0 k1 k2 k3 k4 k5 l5 g0 g1 g2 m0 m1 m2 ls x0 x1 x2
      go_wp2_with fail
      have hF12 := ((row_over3 (row_fill6 HR12.out 0 0 false false false false) n1312 (fltZ k true) A ow1).grows ((Grows.refl _).drew)).cell
      have hF13 := ((row_fill3 (row_over6 HR13.out n1312.symm 0 0 false false false false) (fltZ k true) A ow1).grows ((Grows.refl _).drew)).cell
      exact bodyPost_ret (v := .tuple #[.agg zeroF, .agg #[.int .i64 (fltZ k true), .int .u64 A, .int .u64 ow1]]) (by simp [results, Tryd.results6, go_sem, hF12, hF13, zeroF]) rfl ⟨⟨_, rfl, HN.out _ ow1 (fltZ_pos _ _)⟩, (grows_fill3 (grows_fill6 HG.out HB.out.1 _ _ _ _ _ _) HB.out.2.1 _ _ _).drew⟩
  | some v1 =>
    obtain ⟨V1, hV1⟩ : ∃ V1, V1 = rdE N B (some v1) ow1 := ⟨_, rfl⟩
    rw [← hV1] at hrd1
    have HRD := Lib.hid (show ∀ W (b : Nat), Grows w W → w.heap.size ≤ b → Row W b (wkL p sec A k 0) 61 → Calls Tryd.prog 16 #[.pointer (some ⟨b, 0, none⟩), .int .i64 fi, .int .i64 up] W fun r w' => r = .returned (.tuple #[.agg #[.bool (eb V1 0), .bool (eb V1 1), .bool (eb V1 2), .bool (eb V1 3), .bool (eb V1 4), .bool (eb V1 5), .bool (eb V1 6), .int .i64 (ef V1)], .bool (gok V1), .agg #[.int .i64 0, .int .u64 0, .int .u64 0]]) ∧ Row w' b (wkL p sec A k 3) 61 ∧ Chg [b] W w' from fun W b h1 h2 h3 => by have := hrd1 W b h1 h2 h3; simpa [trA, zeroT, entA_L] using this)
    have hnt := fun w => neq_trap 0 0 0 0 0 0 w
    simp only [beq_self_eq_true, Bool.and_self, Bool.not_true] at hnt
    have HLF := Lib.hid (show leafV V1 = (eb V1 0 && (eb V1 1 || eb V1 3)) from rfl)
    have hlf := fun W => leaf_any (eb V1 0) (eb V1 1) (eb V1 2) (eb V1 3) (eb V1 4) (eb V1 5) (eb V1 6) (ef V1 : Int) W
    rw [← HLF.out] at hlf
    have HLFC := Lib.hid hlf
    clear hrd1 hV1 hlf HLF
    generalize eb V1 0 = a0 at *
    generalize eb V1 1 = a1 at *
    generalize eb V1 2 = a2 at *
    generalize eb V1 3 = a3 at *
    generalize eb V1 4 = a4 at *
    generalize eb V1 5 = a5 at *
    generalize eb V1 6 = a6 at *
    go_enter Tryd.func6, Tryd.ntmps6
    go_wp2_with fail
    obtain ⟨W1, hW1⟩ : ∃ W1, W1 = ((w.alloc (Obj.cells zeroF 34)).alloc (Obj.cells zeroT 36)).alloc (Obj.cells (wkL p sec A k 0) 61) := ⟨_, rfl⟩
    obtain ⟨b14, hb14⟩ : ∃ b, b = w.heap.size + 2 := ⟨_, rfl⟩
    obtain ⟨b13, hb13⟩ : ∃ b, b = w.heap.size + 1 := ⟨_, rfl⟩
    obtain ⟨b12, hb12⟩ : ∃ b, b = w.heap.size := ⟨_, rfl⟩
    have hr12 : Row W1 b12 zeroF 34 := by rw [hW1, hb12]; exact (Row.new _ _ _).grows (((Grows.refl _).alloc _).alloc _)
    have hr13 : Row W1 b13 zeroT 36 := by rw [hW1]; exact (Row.new_at (w.alloc (Obj.cells zeroF 34)) _ _ (by simp [hb13])).grows ((Grows.refl _).alloc _)
    have hr14 : Row W1 b14 (wkL p sec A k 0) 61 := by rw [hW1]; exact Row.new_at _ _ _ (by simp [hb14])
    have hg1 : Grows w W1 := by rw [hW1]; exact (((Grows.refl _).alloc _).alloc _).alloc _
    have HB := Lib.hid (show w.heap.size ≤ b12 ∧ w.heap.size ≤ b13 ∧ w.heap.size ≤ b14 by omega)
    have n1312 : b13 ≠ b12 := by omega
    have n1412 : b14 ≠ b12 := by omega
    have n1413 : b14 ≠ b13 := by omega
    change Calls _ _ _ (((w.alloc (Obj.cells zeroF 34)).alloc (Obj.cells zeroT 36)).alloc (Obj.cells (wkL p sec A k 0) 61)) _
    rw [← hW1]
    rw [← hb14, ← hb13, ← hb12]
    clear hb14 hb13 hb12 hW1
    refine (fault_any k false W1).mono ?_
    rintro _ _ ⟨rfl, hw⟩
    rw [hw]
    clear hw
    go_wp2_with fail
    obtain ⟨W2, hW2⟩ : ∃ W2, W2 = W1.alloc (Obj.cells #[.int .i64 (fltZ k false), .int .u64 A, .int .u64 0] 36) := ⟨_, rfl⟩
    obtain ⟨b15, hb15⟩ : ∃ b, b = W1.heap.size := ⟨_, rfl⟩
    rw [← hW2, ← hb15]
    have hr15 : Row W2 b15 #[.int .i64 (fltZ k false), .int .u64 A, .int .u64 0] 36 := by rw [hW2]; exact Row.new_at _ _ _ hb15
    have hg12 : Grows W1 W2 := by rw [hW2]; exact (Grows.refl _).alloc _
    have n1215 : b12 ≠ b15 := by have := hr12.lt; omega
    have n1315 : b13 ≠ b15 := by have := hr13.lt; omega
    have n1415 : b14 ≠ b15 := by have := hr14.lt; omega
    clear hW2 hb15
    refine (hsp W2).mono ?_
    rintro _ W3 ⟨rfl, hg23⟩
    have HR12 := Lib.hid ((hr12.grows hg12).grows hg23)
    have HR13 := Lib.hid ((hr13.grows hg12).grows hg23)
    have HRW := Lib.hid ((hr14.grows hg12).grows hg23)
    have HR15 := Lib.hid (hr15.grows hg23)
    have HG := Lib.hid ((hg1.trans hg12).trans hg23)
    clear hr12 hr13 hr14 hr15 hg1 hg12 hg23 hsp
    go_wp2_with fail
    obtain ⟨W4, hW4⟩ : ∃ W4, W4 = W3.alloc (Obj.cells #[.int .i64 0, .bool true, .bool true, .bool true, .bool u, .int .i64 0] 34) := ⟨_, rfl⟩
    obtain ⟨b20, hb20⟩ : ∃ b, b = W3.heap.size := ⟨_, rfl⟩
    rw [← hW4, ← hb20]
    have hg34 : Grows W3 W4 := by rw [hW4]; exact (Grows.refl _).alloc _
    have HR20 := Lib.hid (show Row W4 b20 #[.int .i64 0, .bool true, .bool true, .bool true, .bool u, .int .i64 0] 34 by rw [hW4]; exact Row.new_at _ _ _ hb20)
    have n1420 : b14 ≠ b20 := by have := HRW.out.lt; omega
    have HB20 := Lib.hid (show w.heap.size ≤ b20 by have := HG.out.size; omega)
    have n1220 : b12 ≠ b20 := by have := HR12.out.lt; omega
    have n1320 : b13 ≠ b20 := by have := HR13.out.lt; omega
    have n1520 : b15 ≠ b20 := by have := HR15.out.lt; omega
    have HR124 := Lib.hid (HR12.out.grows hg34)
    have HR134 := Lib.hid (HR13.out.grows hg34)
    have HR154 := Lib.hid (HR15.out.grows hg34)
    have HRW4 := Lib.hid (HRW.out.grows hg34)
    have HG4 := Lib.hid (HG.out.trans hg34)
    clear hW4 hb20 hg34 HR12 HR13 HR15 HRW HG
    have HR12 := Lib.hid HR124.out
    have HR13 := Lib.hid HR134.out
    have HR15 := Lib.hid HR154.out
    have HRW := Lib.hid HRW4.out
    have HG := Lib.hid HG4.out
    clear HR124 HR134 HR154 HRW4 HG4
    refine (HRD.out _ _ HG.out HB.out.2.2 HRW.out).mono ?_
    rintro _ W5 ⟨rfl, hrw5, hc5⟩
    have HR125 := Lib.hid (HR12.out.chg hc5 (by simp; exact n1412.symm))
    have HR135 := Lib.hid (HR13.out.chg hc5 (by simp; exact n1413.symm))
    have HR155 := Lib.hid (HR15.out.chg hc5 (by simp; exact n1415.symm))
    have HRW5 := Lib.hid hrw5
    have HG5 := Lib.hid (hc5.to_grows HG.out (fun x hx => by simp at hx; subst hx; exact HB.out.2.2))
    have HR205 := Lib.hid (HR20.out.chg hc5 (by simp; exact n1420.symm))
    clear HR12 HR13 HR15 HRW HG HR20 hrw5 hc5 HRD
    go_upto_region 9 with fail
    obtain ⟨W6, hW6⟩ : ∃ W6, W6 = (W5.alloc (Obj.cells #[.bool a0, .bool a1, .bool a2, .bool a3, .bool a4, .bool a5, .bool a6, .int .i64 (ef V1)] 26)).alloc (Obj.cells #[.int .i64 0, .int .u64 0, .int .u64 0] 36) := ⟨_, rfl⟩
    obtain ⟨b24, hb24⟩ : ∃ b, b = W5.heap.size + 1 := ⟨_, rfl⟩
    obtain ⟨b22, hb22⟩ : ∃ b, b = W5.heap.size := ⟨_, rfl⟩
    rw [← hW6, ← hb24, ← hb22]
    have hg56 : Grows W5 W6 := by rw [hW6]; exact ((Grows.refl _).alloc _).alloc _
    have HR22 := Lib.hid (show Row W6 b22 #[.bool a0, .bool a1, .bool a2, .bool a3, .bool a4, .bool a5, .bool a6, .int .i64 (ef V1)] 26 by rw [hW6, hb22]; exact (Row.new _ _ _).grows ((Grows.refl _).alloc _))
    have HR24 := Lib.hid (show Row W6 b24 #[.int .i64 0, .int .u64 0, .int .u64 0] 36 by rw [hW6]; exact Row.new_at _ _ _ (by simp [hb24]))
    have n1222 : b12 ≠ b22 := by have := HR125.out.lt; omega
    have n1224 : b12 ≠ b24 := by have := HR125.out.lt; omega
    have n1322 : b13 ≠ b22 := by have := HR135.out.lt; omega
    have n1324 : b13 ≠ b24 := by have := HR135.out.lt; omega
    have n1422 : b14 ≠ b22 := by have := HRW5.out.lt; omega
    have n1424 : b14 ≠ b24 := by have := HRW5.out.lt; omega
    have n1522 : b15 ≠ b22 := by have := HR155.out.lt; omega
    have n1524 : b15 ≠ b24 := by have := HR155.out.lt; omega
    have n2022 : b20 ≠ b22 := by have := HR205.out.lt; omega
    have n2024 : b20 ≠ b24 := by have := HR205.out.lt; omega
    have n2224 : b22 ≠ b24 := by omega
    have n2412 := n1224.symm
    have n2413 := n1324.symm
    have HR12 := Lib.hid (HR125.out.grows hg56)
    have HR13 := Lib.hid (HR135.out.grows hg56)
    have HR15 := Lib.hid (HR155.out.grows hg56)
    have HR20 := Lib.hid (HR205.out.grows hg56)
    have HRW := Lib.hid (HRW5.out.grows hg56)
    have HG := Lib.hid (HG5.out.trans hg56)
    have HB22 := Lib.hid (show w.heap.size ≤ b22 ∧ w.heap.size ≤ b24 by have := HG5.out.size; omega)
    clear hW6 hb24 hb22 hg56 HR125 HR135 HR155 HG5 HRW5 HR205
    have q0 := (HR24.out.cell 0).trans (show (#[Value.int .i64 0, .int .u64 0, .int .u64 0] : Array Value)[0]? = some (.int .i64 0) from rfl)
    have q1 := (HR24.out.cell 1).trans (show (#[Value.int .i64 0, .int .u64 0, .int .u64 0] : Array Value)[1]? = some (.int .u64 0) from rfl)
    have q2 := (HR24.out.cell 2).trans (show (#[Value.int .i64 0, .int .u64 0, .int .u64 0] : Array Value)[2]? = some (.int .u64 0) from rfl)
    have q3 := HR24.out.lt
    cases hgk : gok V1
    · clear hgk
      go_wp2_with fail
      clear q0 q1 q2 q3
      have l4 := HR12.out.lt
      have f0 := HR12.out.frozen 0
      have f1 := HR12.out.frozen 1
      have f2 := HR12.out.frozen 2
      have f3 := HR12.out.frozen 3
      have f4 := HR12.out.frozen 4
      have f5 := HR12.out.frozen 5
      have k0 := (HR12.out.cell 0).trans (show zeroF[0]? = some (.int .i64 0) from rfl)
      have k1 := (HR12.out.cell 1).trans (show zeroF[1]? = some (.bool false) from rfl)
      have k2 := (HR12.out.cell 2).trans (show zeroF[2]? = some (.bool false) from rfl)
      have k3 := (HR12.out.cell 3).trans (show zeroF[3]? = some (.bool false) from rfl)
      have k4 := (HR12.out.cell 4).trans (show zeroF[4]? = some (.bool false) from rfl)
      have k5 := (HR12.out.cell 5).trans (show zeroF[5]? = some (.int .i64 0) from rfl)
      have l5 := HR13.out.lt
      have g0 := HR13.out.frozen 0
      have g1 := HR13.out.frozen 1
      have g2 := HR13.out.frozen 2
      have m0 := (HR13.out.cell 0).trans (show zeroT[0]? = some (.int .i64 0) from rfl)
      have m1 := (HR13.out.cell 1).trans (show zeroT[1]? = some (.int .u64 0) from rfl)
      have m2 := (HR13.out.cell 2).trans (show zeroT[2]? = some (.int .u64 0) from rfl)
      have ls := HR15.out.lt
      have x0 := (HR15.out.cell 0).trans (show (#[Value.int .i64 (fltZ k false), .int .u64 A, .int .u64 0] : Array Value)[0]? = some (.int .i64 (fltZ k false)) from rfl)
      have x1 := (HR15.out.cell 1).trans (show (#[Value.int .i64 (fltZ k false), .int .u64 A, .int .u64 0] : Array Value)[1]? = some (.int .u64 A) from rfl)
      have x2 := (HR15.out.cell 2).trans (show (#[Value.int .i64 (fltZ k false), .int .u64 A, .int .u64 0] : Array Value)[2]? = some (.int .u64 0) from rfl)
      go_region
      all_goals
        clear l4 f0 f1 f2 f3 f4 f5 k0 k1 k2 k3 k4 k5 l5 g0 g1 g2 m0 m1 m2 ls x0 x1 x2
        go_wp2_with fail
        have hF12 := ((row_over3 (row_fill6 HR12.out 0 0 false false false false) n1312 (fltZ k false) A 0).grows ((Grows.refl _).drew)).cell
        have hF13 := ((row_fill3 (row_over6 HR13.out n1312.symm 0 0 false false false false) (fltZ k false) A 0).grows ((Grows.refl _).drew)).cell
        exact bodyPost_ret (v := .tuple #[.agg zeroF, .agg #[.int .i64 (fltZ k false), .int .u64 A, .int .u64 0]]) (by simp [results, Tryd.results6, go_sem, hF12, hF13, zeroF]) rfl ⟨⟨_, rfl, HN.out _ 0 (fltZ_pos _ _)⟩, (grows_fill3 (grows_fill6 HG.out HB.out.1 _ _ _ _ _ _) HB.out.2.1 _ _ _).drew⟩
    clear hgk
    obtain ⟨y0, y1, y2, y3, y4, y5, y6, y7⟩ := row8 HR22.out
    have y8 := HR22.out.lt
    go_wp2_with fail
    clear q0 q1 q2 q3 y0 y1 y2 y3 y4 y5 y6 y7 y8
    refine (HLFC.out _).mono ?_
    rintro _ W7 ⟨rfl, hg7⟩
    have HR12N := Lib.hid (HR12.out.grows hg7)
    have HR13N := Lib.hid (HR13.out.grows hg7)
    have HR15N := Lib.hid (HR15.out.grows hg7)
    have HR20N := Lib.hid (HR20.out.grows hg7)
    have HR22N := Lib.hid (HR22.out.grows hg7)
    have HR24N := Lib.hid (HR24.out.grows hg7)
    have HRWN := Lib.hid (HRW.out.grows hg7)
    have HGN := Lib.hid (HG.out.trans hg7)
    clear HR12 HR13 HR15 HR20 HR22 HR24 HRW HG hg7
    have HR12 := Lib.hid HR12N.out
    have HR13 := Lib.hid HR13N.out
    have HR15 := Lib.hid HR15N.out
    have HR20 := Lib.hid HR20N.out
    have HR22 := Lib.hid HR22N.out
    have HR24 := Lib.hid HR24N.out
    have HRW := Lib.hid HRWN.out
    have HG := Lib.hid HGN.out
    clear HR12N HR13N HR15N HR20N HR22N HR24N HRWN HGN
    clear HLFC
    cases hlv : leafV V1
    rotate_left
    · clear hlv
      go_wp2_with fail
      have l4 := HR12.out.lt
      have f0 := HR12.out.frozen 0
      have f1 := HR12.out.frozen 1
      have f2 := HR12.out.frozen 2
      have f3 := HR12.out.frozen 3
      have f4 := HR12.out.frozen 4
      have f5 := HR12.out.frozen 5
      have k0 := (HR12.out.cell 0).trans (show zeroF[0]? = some (.int .i64 0) from rfl)
      have k1 := (HR12.out.cell 1).trans (show zeroF[1]? = some (.bool false) from rfl)
      have k2 := (HR12.out.cell 2).trans (show zeroF[2]? = some (.bool false) from rfl)
      have k3 := (HR12.out.cell 3).trans (show zeroF[3]? = some (.bool false) from rfl)
      have k4 := (HR12.out.cell 4).trans (show zeroF[4]? = some (.bool false) from rfl)
      have k5 := (HR12.out.cell 5).trans (show zeroF[5]? = some (.int .i64 0) from rfl)
      have l5 := HR13.out.lt
      have g0 := HR13.out.frozen 0
      have g1 := HR13.out.frozen 1
      have g2 := HR13.out.frozen 2
      have m0 := (HR13.out.cell 0).trans (show zeroT[0]? = some (.int .i64 0) from rfl)
      have m1 := (HR13.out.cell 1).trans (show zeroT[1]? = some (.int .u64 0) from rfl)
      have m2 := (HR13.out.cell 2).trans (show zeroT[2]? = some (.int .u64 0) from rfl)
      have ls := HR15.out.lt
      have x0 := (HR15.out.cell 0).trans (show (#[Value.int .i64 (fltZ k false), .int .u64 A, .int .u64 0] : Array Value)[0]? = some (.int .i64 (fltZ k false)) from rfl)
      have x1 := (HR15.out.cell 1).trans (show (#[Value.int .i64 (fltZ k false), .int .u64 A, .int .u64 0] : Array Value)[1]? = some (.int .u64 A) from rfl)
      have x2 := (HR15.out.cell 2).trans (show (#[Value.int .i64 (fltZ k false), .int .u64 A, .int .u64 0] : Array Value)[2]? = some (.int .u64 0) from rfl)
      go_region
      all_goals
        clear l4 f0 f1 f2 f3 f4 f5 k0 k1 k2 k3 k4 k5 l5 g0 g1 g2 m0 m1 m2 ls x0 x1 x2
        go_wp2_with fail
        have hF12 := ((row_over3 (row_fill6 HR12.out 0 0 false false false false) n1312 (fltZ k false) A 0).grows ((Grows.refl _).drew)).cell
        have hF13 := ((row_fill3 (row_over6 HR13.out n1312.symm 0 0 false false false false) (fltZ k false) A 0).grows ((Grows.refl _).drew)).cell
        exact bodyPost_ret (v := .tuple #[.agg zeroF, .agg #[.int .i64 (fltZ k false), .int .u64 A, .int .u64 0]]) (by simp [results, Tryd.results6, go_sem, hF12, hF13, zeroF]) rfl ⟨⟨_, rfl, HN.out _ 0 (fltZ_pos _ _)⟩, (grows_fill3 (grows_fill6 HG.out HB.out.1 _ _ _ _ _ _) HB.out.2.1 _ _ _).drew⟩
    clear hlv
    have hrd2 := HRD2.out V1
    obtain ⟨ow2, how2⟩ : ∃ ow2, ow2 = ef V1 * 256 + 8 * lo := ⟨_, rfl⟩
    obtain ⟨o2, ho2⟩ : ∃ o, o = oneV N B sec ow2 1 true := ⟨_, rfl⟩
    rw [← how2, ← ho2] at hrd2
    clear how2 ho2 HRD2
    have y7 := (HR22.out.cell 7).trans (show (#[Value.bool a0, .bool a1, .bool a2, .bool a3, .bool a4, .bool a5, .bool a6, .int .i64 (ef V1)] : Array Value)[7]? = some (.int .i64 (ef V1)) from rfl)
    have y8 := HR22.out.lt
    go_wp2_with fail
    clear y7 y8
    have HRD2 := Lib.hid (hrd2 _ _ HG.out HB.out.2.2 HRW.out)
    clear hrd2
    cases o2 with
    | none =>
      have HRD3 := Lib.hid (show Calls Tryd.prog 16 #[.pointer (some ⟨b14, 0, none⟩), .int .i64 (ef V1), .int .i64 lo] W7 fun r w' => r = .returned (.tuple #[.agg #[.bool false, .bool false, .bool false, .bool false, .bool false, .bool false, .bool false, .int .i64 0], .bool false, .agg #[.int .i64 (fltZ k true), .int .u64 A, .int .u64 ow2]]) ∧ Row w' b14 (wkL p sec A k 3) 61 ∧ Chg [b14] W7 w' from by have := HRD2.out; rw [show rdE N B none ow2 = 0 from rfl, entA_0, gok0] at this; simpa [trA] using this)
      have hnt2 := fun w => neq_trap (fltZ k true) A ow2 0 0 0 w
      have hz : (fltZ k true == 0) = false := by simp [fltZ_pos]
      rw [hz] at hnt2
      simp only [Bool.false_and, Bool.not_false] at hnt2
      clear hz HRD2
      refine HRD3.out.mono ?_
      rintro _ W8 ⟨rfl, hrw8, hc8⟩
      clear HRD3
      have HR12N := Lib.hid (HR12.out.chg hc8 (by simp; exact n1412.symm))
      have HR13N := Lib.hid (HR13.out.chg hc8 (by simp; exact n1413.symm))
      have HR15N := Lib.hid (HR15.out.chg hc8 (by simp; exact n1415.symm))
      have HR20N := Lib.hid (HR20.out.chg hc8 (by simp; exact n1420.symm))
      have HR22N := Lib.hid (HR22.out.chg hc8 (by simp; exact n1422.symm))
      have HR24N := Lib.hid (HR24.out.chg hc8 (by simp; exact n1424.symm))
      have HRWN := Lib.hid hrw8
      have HGN := Lib.hid (hc8.to_grows HG.out (fun x hx => by simp at hx; subst hx; exact HB.out.2.2))
      clear HR12 HR13 HR15 HR20 HR22 HR24 HRW HG hc8 hrw8
      have HR12 := Lib.hid HR12N.out
      have HR13 := Lib.hid HR13N.out
      have HR15 := Lib.hid HR15N.out
      have HR20 := Lib.hid HR20N.out
      have HR22 := Lib.hid HR22N.out
      have HR24 := Lib.hid HR24N.out
      have HRW := Lib.hid HRWN.out
      have HG := Lib.hid HGN.out
      clear HR12N HR13N HR15N HR20N HR22N HR24N HRWN HGN
      obtain ⟨y0, y1, y2, y3, y4, y5, y6, y7⟩ := row8 HR22.out
      have y8 := HR22.out.lt
      have f0 := HR22.out.frozen 0
      have f1 := HR22.out.frozen 1
      have f2 := HR22.out.frozen 2
      have f3 := HR22.out.frozen 3
      have f4 := HR22.out.frozen 4
      have f5 := HR22.out.frozen 5
      have f6 := HR22.out.frozen 6
      have f7 := HR22.out.frozen 7
      have q0 := (HR24.out.cell 0).trans (show (#[Value.int .i64 0, .int .u64 0, .int .u64 0] : Array Value)[0]? = some (.int .i64 0) from rfl)
      have q1 := (HR24.out.cell 1).trans (show (#[Value.int .i64 0, .int .u64 0, .int .u64 0] : Array Value)[1]? = some (.int .u64 0) from rfl)
      have q2 := (HR24.out.cell 2).trans (show (#[Value.int .i64 0, .int .u64 0, .int .u64 0] : Array Value)[2]? = some (.int .u64 0) from rfl)
      have q3 := HR24.out.lt
      have g0 := HR24.out.frozen 0
      have g1 := HR24.out.frozen 1
      have g2 := HR24.out.frozen 2
      go_upto_region 14 with fail
      clear y0 y1 y2 y3 y4 y5 y6 y7 y8 f0 f1 f2 f3 f4 f5 f6 f7 q0 q1 q2 q3 g0 g1 g2
      obtain ⟨W9, hW9⟩ : ∃ W9, W9 = (((World.fill8 W8 b22 false false false false false false false 0).setCell ⟨b24, 0, none⟩ (.int .i64 (fltZ k true))).setCell ⟨b24, 1, none⟩ (.int .u64 A)).setCell ⟨b24, 2, none⟩ (.int .u64 ow2) := ⟨_, rfl⟩
      change Code.wp _ _ _ _ ((((World.fill8 W8 b22 false false false false false false false 0).setCell ⟨b24, 0, none⟩ (.int .i64 (fltZ k true))).setCell ⟨b24, 1, none⟩ (.int .u64 A)).setCell ⟨b24, 2, none⟩ (.int .u64 ow2))
      rw [← hW9]
      have HR12N := Lib.hid (show Row W9 b12 zeroF 34 by rw [hW9]; exact row_over3 (row_over8 HR12.out n1222.symm _ _ _ _ _ _ _ _) n1224.symm _ _ _)
      have HR13N := Lib.hid (show Row W9 b13 zeroT 36 by rw [hW9]; exact row_over3 (row_over8 HR13.out n1322.symm _ _ _ _ _ _ _ _) n1324.symm _ _ _)
      have HR15N := Lib.hid (show Row W9 b15 #[.int .i64 (fltZ k false), .int .u64 A, .int .u64 0] 36 by rw [hW9]; exact row_over3 (row_over8 HR15.out n1522.symm _ _ _ _ _ _ _ _) n1524.symm _ _ _)
      have HR20N := Lib.hid (show Row W9 b20 #[.int .i64 0, .bool true, .bool true, .bool true, .bool u, .int .i64 0] 34 by rw [hW9]; exact row_over3 (row_over8 HR20.out n2022.symm _ _ _ _ _ _ _ _) n2024.symm _ _ _)
      have HR22N := Lib.hid (show Row W9 b22 #[.bool false, .bool false, .bool false, .bool false, .bool false, .bool false, .bool false, .int .i64 0] 26 by rw [hW9]; exact row_over3 (row_put8 HR22.out _ _ _ _ _ _ _ _) n2224.symm _ _ _)
      have HR24N := Lib.hid (show Row W9 b24 #[.int .i64 (fltZ k true), .int .u64 A, .int .u64 ow2] 36 by rw [hW9]; exact row_put3 (row_over8 HR24.out n2224 _ _ _ _ _ _ _ _) _ _ _)
      have HRWN := Lib.hid (HRW.out.chg (S := [b22, b24]) (w' := W9) (by rw [hW9]; exact (((((((((((Chg.refl _ _).setCell (Or.inl (by simp)) _ _).setCell (Or.inl (by simp)) _ _).setCell (Or.inl (by simp)) _ _).setCell (Or.inl (by simp)) _ _).setCell (Or.inl (by simp)) _ _).setCell (Or.inl (by simp)) _ _).setCell (Or.inl (by simp)) _ _).setCell (Or.inl (by simp)) _ _).setCell (Or.inl (by simp)) _ _).setCell (Or.inl (by simp)) _ _).setCell (Or.inl (by simp)) _ _) (by simp; exact ⟨n1422, n1424⟩))
      have HGN := Lib.hid (show Grows w W9 by rw [hW9]; exact grows_fill3 (grows_put8 HG.out HB22.out.1 _ _ _ _ _ _ _ _) HB22.out.2 _ _ _)
      clear HR12 HR13 HR15 HR20 HR22 HR24 HRW HG hW9
      have HR12 := Lib.hid HR12N.out
      have HR13 := Lib.hid HR13N.out
      have HR15 := Lib.hid HR15N.out
      have HR20 := Lib.hid HR20N.out
      have HR22 := Lib.hid HR22N.out
      have HR24 := Lib.hid HR24N.out
      have HRW := Lib.hid HRWN.out
      have HG := Lib.hid HGN.out
      clear HR12N HR13N HR15N HR20N HR22N HR24N HRWN HGN
      have q0 := (HR24.out.cell 0).trans (show (#[Value.int .i64 (fltZ k true), .int .u64 A, .int .u64 ow2] : Array Value)[0]? = some (.int .i64 (fltZ k true)) from rfl)
      have q1 := (HR24.out.cell 1).trans (show (#[Value.int .i64 (fltZ k true), .int .u64 A, .int .u64 ow2] : Array Value)[1]? = some (.int .u64 A) from rfl)
      have q2 := (HR24.out.cell 2).trans (show (#[Value.int .i64 (fltZ k true), .int .u64 A, .int .u64 ow2] : Array Value)[2]? = some (.int .u64 ow2) from rfl)
      have q3 := HR24.out.lt
      go_wp2_with fail
      clear q0 q1 q2 q3
      have l4 := HR12.out.lt
      have f0 := HR12.out.frozen 0
      have f1 := HR12.out.frozen 1
      have f2 := HR12.out.frozen 2
      have f3 := HR12.out.frozen 3
      have f4 := HR12.out.frozen 4
      have f5 := HR12.out.frozen 5
      have k0 := (HR12.out.cell 0).trans (show zeroF[0]? = some (.int .i64 0) from rfl)
      have k1 := (HR12.out.cell 1).trans (show zeroF[1]? = some (.bool false) from rfl)
      have k2 := (HR12.out.cell 2).trans (show zeroF[2]? = some (.bool false) from rfl)
      have k3 := (HR12.out.cell 3).trans (show zeroF[3]? = some (.bool false) from rfl)
      have k4 := (HR12.out.cell 4).trans (show zeroF[4]? = some (.bool false) from rfl)
      have k5 := (HR12.out.cell 5).trans (show zeroF[5]? = some (.int .i64 0) from rfl)
      have l5 := HR13.out.lt
      have g0 := HR13.out.frozen 0
      have g1 := HR13.out.frozen 1
      have g2 := HR13.out.frozen 2
      have m0 := (HR13.out.cell 0).trans (show zeroT[0]? = some (.int .i64 0) from rfl)
      have m1 := (HR13.out.cell 1).trans (show zeroT[1]? = some (.int .u64 0) from rfl)
      have m2 := (HR13.out.cell 2).trans (show zeroT[2]? = some (.int .u64 0) from rfl)
      have ls := HR24.out.lt
      have x0 := (HR24.out.cell 0).trans (show (#[Value.int .i64 (fltZ k true), .int .u64 A, .int .u64 ow2] : Array Value)[0]? = some (.int .i64 (fltZ k true)) from rfl)
      have x1 := (HR24.out.cell 1).trans (show (#[Value.int .i64 (fltZ k true), .int .u64 A, .int .u64 ow2] : Array Value)[1]? = some (.int .u64 A) from rfl)
      have x2 := (HR24.out.cell 2).trans (show (#[Value.int .i64 (fltZ k true), .int .u64 A, .int .u64 ow2] : Array Value)[2]? = some (.int .u64 ow2) from rfl)
      go_region
      all_goals
        clear l4 f0 f1 f2 f3 f4 f5 k0 k1 k2 k3 k4 k5 l5 g0 g1 g2 m0 m1 m2 ls x0 x1 x2
        go_wp2_with fail
        have hF12 := ((row_over3 (row_fill6 HR12.out 0 0 false false false false) n1312 (fltZ k true) A ow2).grows ((Grows.refl _).drew)).cell
        have hF13 := ((row_fill3 (row_over6 HR13.out n1312.symm 0 0 false false false false) (fltZ k true) A ow2).grows ((Grows.refl _).drew)).cell
        exact bodyPost_ret (v := .tuple #[.agg zeroF, .agg #[.int .i64 (fltZ k true), .int .u64 A, .int .u64 ow2]]) (by simp [results, Tryd.results6, go_sem, hF12, hF13, zeroF]) rfl ⟨⟨_, rfl, HN.out _ ow2 (fltZ_pos _ _)⟩, (grows_fill3 (grows_fill6 HG.out HB.out.1 _ _ _ _ _ _) HB.out.2.1 _ _ _).drew⟩
    | some v2 =>
      obtain ⟨V2, hV2⟩ : ∃ V2, V2 = rdE N B (some v2) ow2 := ⟨_, rfl⟩
      have HRD3 := Lib.hid (show Calls Tryd.prog 16 #[.pointer (some ⟨b14, 0, none⟩), .int .i64 (ef V1), .int .i64 lo] W7 fun r w' => r = .returned (.tuple #[.agg #[.bool (eb V2 0), .bool (eb V2 1), .bool (eb V2 2), .bool (eb V2 3), .bool (eb V2 4), .bool (eb V2 5), .bool (eb V2 6), .int .i64 (ef V2)], .bool (gok V2), .agg #[.int .i64 0, .int .u64 0, .int .u64 0]]) ∧ Row w' b14 (wkL p sec A k 6) 61 ∧ Chg [b14] W7 w' from by have := HRD2.out; rw [← hV2] at this; simpa [trA, zeroT, entA_L] using this)
      have hal := fun W => allows_any (eb V2 0) (eb V2 1) (eb V2 2) (eb V2 3) (eb V2 4) (eb V2 5) (eb V2 6) (ef V2) k u W
      have hfn := fun W => found_any (eb V2 0) (eb V2 1) (eb V2 2) (eb V2 3) (eb V2 4) (eb V2 5) (eb V2 6) (ef V2) 0 W
      have hown := @own_of (eb V2 0) (eb V2 1) (eb V2 2) (eb V2 3) (eb V2 4) k u
      obtain ⟨av, hav⟩ : ∃ av, av = allowsB (eb V2 0) (eb V2 1) (eb V2 2) (eb V2 3) (eb V2 4) k u := ⟨_, rfl⟩
      rw [← hav] at hal hown
      have HAL := Lib.hid hal
      have HFN := Lib.hid hfn
      have HOWN := Lib.hid hown
      have HLT := Lib.hid (ef_lt V2)
      clear HRD2 hV2 hal hfn hown hav
      generalize gok V2 = gk2 at *
      generalize eb V2 0 = c0 at *
      generalize eb V2 1 = c1 at *
      generalize eb V2 2 = c2 at *
      generalize eb V2 3 = c3 at *
      generalize eb V2 4 = c4 at *
      generalize eb V2 5 = c5 at *
      generalize eb V2 6 = c6 at *
      generalize ef V2 = mq at *
      refine HRD3.out.mono ?_
      rintro _ W8 ⟨rfl, hrw8, hc8⟩
      clear HRD3
      have HR12N := Lib.hid (HR12.out.chg hc8 (by simp; exact n1412.symm))
      have HR13N := Lib.hid (HR13.out.chg hc8 (by simp; exact n1413.symm))
      have HR15N := Lib.hid (HR15.out.chg hc8 (by simp; exact n1415.symm))
      have HR20N := Lib.hid (HR20.out.chg hc8 (by simp; exact n1420.symm))
      have HR22N := Lib.hid (HR22.out.chg hc8 (by simp; exact n1422.symm))
      have HR24N := Lib.hid (HR24.out.chg hc8 (by simp; exact n1424.symm))
      have HRWN := Lib.hid hrw8
      have HGN := Lib.hid (hc8.to_grows HG.out (fun x hx => by simp at hx; subst hx; exact HB.out.2.2))
      clear HR12 HR13 HR15 HR20 HR22 HR24 HRW HG hc8 hrw8
      have HR12 := Lib.hid HR12N.out
      have HR13 := Lib.hid HR13N.out
      have HR15 := Lib.hid HR15N.out
      have HR20 := Lib.hid HR20N.out
      have HR22 := Lib.hid HR22N.out
      have HR24 := Lib.hid HR24N.out
      have HRW := Lib.hid HRWN.out
      have HG := Lib.hid HGN.out
      clear HR12N HR13N HR15N HR20N HR22N HR24N HRWN HGN
      obtain ⟨y0, y1, y2, y3, y4, y5, y6, y7⟩ := row8 HR22.out
      have y8 := HR22.out.lt
      have f0 := HR22.out.frozen 0
      have f1 := HR22.out.frozen 1
      have f2 := HR22.out.frozen 2
      have f3 := HR22.out.frozen 3
      have f4 := HR22.out.frozen 4
      have f5 := HR22.out.frozen 5
      have f6 := HR22.out.frozen 6
      have f7 := HR22.out.frozen 7
      have q0 := (HR24.out.cell 0).trans (show (#[Value.int .i64 0, .int .u64 0, .int .u64 0] : Array Value)[0]? = some (.int .i64 0) from rfl)
      have q1 := (HR24.out.cell 1).trans (show (#[Value.int .i64 0, .int .u64 0, .int .u64 0] : Array Value)[1]? = some (.int .u64 0) from rfl)
      have q2 := (HR24.out.cell 2).trans (show (#[Value.int .i64 0, .int .u64 0, .int .u64 0] : Array Value)[2]? = some (.int .u64 0) from rfl)
      have q3 := HR24.out.lt
      have g0 := HR24.out.frozen 0
      have g1 := HR24.out.frozen 1
      have g2 := HR24.out.frozen 2
      go_upto_region 14 with fail
      clear y0 y1 y2 y3 y4 y5 y6 y7 y8 f0 f1 f2 f3 f4 f5 f6 f7 q0 q1 q2 q3 g0 g1 g2
      obtain ⟨W9, hW9⟩ : ∃ W9, W9 = (((World.fill8 W8 b22 c0 c1 c2 c3 c4 c5 c6 mq).setCell ⟨b24, 0, none⟩ (.int .i64 (0))).setCell ⟨b24, 1, none⟩ (.int .u64 0)).setCell ⟨b24, 2, none⟩ (.int .u64 0) := ⟨_, rfl⟩
      change Code.wp _ _ _ _ ((((World.fill8 W8 b22 c0 c1 c2 c3 c4 c5 c6 mq).setCell ⟨b24, 0, none⟩ (.int .i64 (0))).setCell ⟨b24, 1, none⟩ (.int .u64 0)).setCell ⟨b24, 2, none⟩ (.int .u64 0))
      rw [← hW9]
      have HR12N := Lib.hid (show Row W9 b12 zeroF 34 by rw [hW9]; exact row_over3 (row_over8 HR12.out n1222.symm _ _ _ _ _ _ _ _) n1224.symm _ _ _)
      have HR13N := Lib.hid (show Row W9 b13 zeroT 36 by rw [hW9]; exact row_over3 (row_over8 HR13.out n1322.symm _ _ _ _ _ _ _ _) n1324.symm _ _ _)
      have HR15N := Lib.hid (show Row W9 b15 #[.int .i64 (fltZ k false), .int .u64 A, .int .u64 0] 36 by rw [hW9]; exact row_over3 (row_over8 HR15.out n1522.symm _ _ _ _ _ _ _ _) n1524.symm _ _ _)
      have HR20N := Lib.hid (show Row W9 b20 #[.int .i64 0, .bool true, .bool true, .bool true, .bool u, .int .i64 0] 34 by rw [hW9]; exact row_over3 (row_over8 HR20.out n2022.symm _ _ _ _ _ _ _ _) n2024.symm _ _ _)
      have HR22N := Lib.hid (show Row W9 b22 #[.bool c0, .bool c1, .bool c2, .bool c3, .bool c4, .bool c5, .bool c6, .int .i64 mq] 26 by rw [hW9]; exact row_over3 (row_put8 HR22.out _ _ _ _ _ _ _ _) n2224.symm _ _ _)
      have HR24N := Lib.hid (show Row W9 b24 #[.int .i64 (0), .int .u64 0, .int .u64 0] 36 by rw [hW9]; exact row_put3 (row_over8 HR24.out n2224 _ _ _ _ _ _ _ _) _ _ _)
      have HRWN := Lib.hid (HRW.out.chg (S := [b22, b24]) (w' := W9) (by rw [hW9]; exact (((((((((((Chg.refl _ _).setCell (Or.inl (by simp)) _ _).setCell (Or.inl (by simp)) _ _).setCell (Or.inl (by simp)) _ _).setCell (Or.inl (by simp)) _ _).setCell (Or.inl (by simp)) _ _).setCell (Or.inl (by simp)) _ _).setCell (Or.inl (by simp)) _ _).setCell (Or.inl (by simp)) _ _).setCell (Or.inl (by simp)) _ _).setCell (Or.inl (by simp)) _ _).setCell (Or.inl (by simp)) _ _) (by simp; exact ⟨n1422, n1424⟩))
      have HGN := Lib.hid (show Grows w W9 by rw [hW9]; exact grows_fill3 (grows_put8 HG.out HB22.out.1 _ _ _ _ _ _ _ _) HB22.out.2 _ _ _)
      clear HR12 HR13 HR15 HR20 HR22 HR24 HRW HG hW9
      have HR12 := Lib.hid HR12N.out
      have HR13 := Lib.hid HR13N.out
      have HR15 := Lib.hid HR15N.out
      have HR20 := Lib.hid HR20N.out
      have HR22 := Lib.hid HR22N.out
      have HR24 := Lib.hid HR24N.out
      have HRW := Lib.hid HRWN.out
      have HG := Lib.hid HGN.out
      clear HR12N HR13N HR15N HR20N HR22N HR24N HRWN HGN
      have q0 := (HR24.out.cell 0).trans (show (#[Value.int .i64 (0), .int .u64 0, .int .u64 0] : Array Value)[0]? = some (.int .i64 (0)) from rfl)
      have q1 := (HR24.out.cell 1).trans (show (#[Value.int .i64 (0), .int .u64 0, .int .u64 0] : Array Value)[1]? = some (.int .u64 0) from rfl)
      have q2 := (HR24.out.cell 2).trans (show (#[Value.int .i64 (0), .int .u64 0, .int .u64 0] : Array Value)[2]? = some (.int .u64 0) from rfl)
      have q3 := HR24.out.lt
      cases gk2
      · go_wp2_with fail
        clear q0 q1 q2 q3
        have l4 := HR12.out.lt
        have f0 := HR12.out.frozen 0
        have f1 := HR12.out.frozen 1
        have f2 := HR12.out.frozen 2
        have f3 := HR12.out.frozen 3
        have f4 := HR12.out.frozen 4
        have f5 := HR12.out.frozen 5
        have k0 := (HR12.out.cell 0).trans (show zeroF[0]? = some (.int .i64 0) from rfl)
        have k1 := (HR12.out.cell 1).trans (show zeroF[1]? = some (.bool false) from rfl)
        have k2 := (HR12.out.cell 2).trans (show zeroF[2]? = some (.bool false) from rfl)
        have k3 := (HR12.out.cell 3).trans (show zeroF[3]? = some (.bool false) from rfl)
        have k4 := (HR12.out.cell 4).trans (show zeroF[4]? = some (.bool false) from rfl)
        have k5 := (HR12.out.cell 5).trans (show zeroF[5]? = some (.int .i64 0) from rfl)
        have l5 := HR13.out.lt
        have g0 := HR13.out.frozen 0
        have g1 := HR13.out.frozen 1
        have g2 := HR13.out.frozen 2
        have m0 := (HR13.out.cell 0).trans (show zeroT[0]? = some (.int .i64 0) from rfl)
        have m1 := (HR13.out.cell 1).trans (show zeroT[1]? = some (.int .u64 0) from rfl)
        have m2 := (HR13.out.cell 2).trans (show zeroT[2]? = some (.int .u64 0) from rfl)
        have ls := HR15.out.lt
        have x0 := (HR15.out.cell 0).trans (show (#[Value.int .i64 (fltZ k false), .int .u64 A, .int .u64 0] : Array Value)[0]? = some (.int .i64 (fltZ k false)) from rfl)
        have x1 := (HR15.out.cell 1).trans (show (#[Value.int .i64 (fltZ k false), .int .u64 A, .int .u64 0] : Array Value)[1]? = some (.int .u64 A) from rfl)
        have x2 := (HR15.out.cell 2).trans (show (#[Value.int .i64 (fltZ k false), .int .u64 A, .int .u64 0] : Array Value)[2]? = some (.int .u64 0) from rfl)
        go_region
        all_goals
          clear l4 f0 f1 f2 f3 f4 f5 k0 k1 k2 k3 k4 k5 l5 g0 g1 g2 m0 m1 m2 ls x0 x1 x2
          go_wp2_with fail
          have hF12 := ((row_over3 (row_fill6 HR12.out 0 0 false false false false) n1312 (fltZ k false) A 0).grows ((Grows.refl _).drew)).cell
          have hF13 := ((row_fill3 (row_over6 HR13.out n1312.symm 0 0 false false false false) (fltZ k false) A 0).grows ((Grows.refl _).drew)).cell
          exact bodyPost_ret (v := .tuple #[.agg zeroF, .agg #[.int .i64 (fltZ k false), .int .u64 A, .int .u64 0]]) (by simp [results, Tryd.results6, go_sem, hF12, hF13, zeroF]) rfl ⟨⟨_, rfl, HN.out _ 0 (fltZ_pos _ _)⟩, (grows_fill3 (grows_fill6 HG.out HB.out.1 _ _ _ _ _ _) HB.out.2.1 _ _ _).drew⟩
      obtain ⟨y0, y1, y2, y3, y4, y5, y6, y7⟩ := row8 HR22.out
      have y8 := HR22.out.lt
      go_wp2_with fail
      clear q0 q1 q2 q3 y0 y1 y2 y3 y4 y5 y6 y7 y8
      refine (HAL.out _).mono ?_
      rintro _ W10 ⟨rfl, hg10⟩
      have HR12N := Lib.hid (HR12.out.grows hg10)
      have HR13N := Lib.hid (HR13.out.grows hg10)
      have HR15N := Lib.hid (HR15.out.grows hg10)
      have HR20N := Lib.hid (HR20.out.grows hg10)
      have HR22N := Lib.hid (HR22.out.grows hg10)
      have HR24N := Lib.hid (HR24.out.grows hg10)
      have HRWN := Lib.hid (HRW.out.grows hg10)
      have HGN := Lib.hid (HG.out.trans hg10)
      clear HR12 HR13 HR15 HR20 HR22 HR24 HRW HG hg10
      have HR12 := Lib.hid HR12N.out
      have HR13 := Lib.hid HR13N.out
      have HR15 := Lib.hid HR15N.out
      have HR20 := Lib.hid HR20N.out
      have HR22 := Lib.hid HR22N.out
      have HR24 := Lib.hid HR24N.out
      have HRW := Lib.hid HRWN.out
      have HG := Lib.hid HGN.out
      clear HR12N HR13N HR15N HR20N HR22N HR24N HRWN HGN
      clear HAL
      cases av
      · go_wp2_with fail
        have l4 := HR12.out.lt
        have f0 := HR12.out.frozen 0
        have f1 := HR12.out.frozen 1
        have f2 := HR12.out.frozen 2
        have f3 := HR12.out.frozen 3
        have f4 := HR12.out.frozen 4
        have f5 := HR12.out.frozen 5
        have k0 := (HR12.out.cell 0).trans (show zeroF[0]? = some (.int .i64 0) from rfl)
        have k1 := (HR12.out.cell 1).trans (show zeroF[1]? = some (.bool false) from rfl)
        have k2 := (HR12.out.cell 2).trans (show zeroF[2]? = some (.bool false) from rfl)
        have k3 := (HR12.out.cell 3).trans (show zeroF[3]? = some (.bool false) from rfl)
        have k4 := (HR12.out.cell 4).trans (show zeroF[4]? = some (.bool false) from rfl)
        have k5 := (HR12.out.cell 5).trans (show zeroF[5]? = some (.int .i64 0) from rfl)
        have l5 := HR13.out.lt
        have g0 := HR13.out.frozen 0
        have g1 := HR13.out.frozen 1
        have g2 := HR13.out.frozen 2
        have m0 := (HR13.out.cell 0).trans (show zeroT[0]? = some (.int .i64 0) from rfl)
        have m1 := (HR13.out.cell 1).trans (show zeroT[1]? = some (.int .u64 0) from rfl)
        have m2 := (HR13.out.cell 2).trans (show zeroT[2]? = some (.int .u64 0) from rfl)
        have ls := HR15.out.lt
        have x0 := (HR15.out.cell 0).trans (show (#[Value.int .i64 (fltZ k false), .int .u64 A, .int .u64 0] : Array Value)[0]? = some (.int .i64 (fltZ k false)) from rfl)
        have x1 := (HR15.out.cell 1).trans (show (#[Value.int .i64 (fltZ k false), .int .u64 A, .int .u64 0] : Array Value)[1]? = some (.int .u64 A) from rfl)
        have x2 := (HR15.out.cell 2).trans (show (#[Value.int .i64 (fltZ k false), .int .u64 A, .int .u64 0] : Array Value)[2]? = some (.int .u64 0) from rfl)
        go_region
        all_goals
          clear l4 f0 f1 f2 f3 f4 f5 k0 k1 k2 k3 k4 k5 l5 g0 g1 g2 m0 m1 m2 ls x0 x1 x2
          go_wp2_with fail
          have hF12 := ((row_over3 (row_fill6 HR12.out 0 0 false false false false) n1312 (fltZ k false) A 0).grows ((Grows.refl _).drew)).cell
          have hF13 := ((row_fill3 (row_over6 HR13.out n1312.symm 0 0 false false false false) (fltZ k false) A 0).grows ((Grows.refl _).drew)).cell
          exact bodyPost_ret (v := .tuple #[.agg zeroF, .agg #[.int .i64 (fltZ k false), .int .u64 A, .int .u64 0]]) (by simp [results, Tryd.results6, go_sem, hF12, hF13, zeroF]) rfl ⟨⟨_, rfl, HN.out _ 0 (fltZ_pos _ _)⟩, (grows_fill3 (grows_fill6 HG.out HB.out.1 _ _ _ _ _ _) HB.out.2.1 _ _ _).drew⟩
      have HOW := Lib.hid (HOWN.out rfl)
      clear HOWN
      go_wp2_with fail
      have HSR := Lib.hid (fun (w' : World) (h : Row w' b22 #[.bool c0, .bool c1, .bool c2, .bool c3, .bool c4, .bool c5, .bool c6, .int .i64 mq] 26) => (⟨h.cell 0, h.cell 1, h.cell 2, h.cell 3, h.cell 4, h.cell 5, h.cell 6, h.cell 7⟩ : w'.cell? ⟨b22, 0, none⟩ = some (.bool c0) ∧ w'.cell? ⟨b22, 1, none⟩ = some (.bool c1) ∧ w'.cell? ⟨b22, 2, none⟩ = some (.bool c2) ∧ w'.cell? ⟨b22, 3, none⟩ = some (.bool c3) ∧ w'.cell? ⟨b22, 4, none⟩ = some (.bool c4) ∧ w'.cell? ⟨b22, 5, none⟩ = some (.bool c5) ∧ w'.cell? ⟨b22, 6, none⟩ = some (.bool c6) ∧ w'.cell? ⟨b22, 7, none⟩ = some (.int .i64 mq)))
      have e1 : IntKind.u64.wrap (mq : Int) = mq := wrap_u64_small (by omega) (by have := HLT.out; omega)
      have e2 : IntKind.u64.wrap ((mq : Int) * 256) = (mq : Int) * 256 := wrap_u64_small (by omega) (by have := HLT.out; omega)
      have e3 : IntKind.u64.wrap (off : Int) = off := wrap_u64_small (by omega) (by have := HOF.out; omega)
      have e4 : IntKind.u64.wrap ((mq : Int) * 256 + (off : Int)) = ((mq * 256 + off : Nat) : Int) := by rw [wrap_u64_small (by omega) (by have := HOF.out; have := HLT.out; omega)]; omega
      have l22 := HR22.out.lt
      have l20' := HR20.out.lt
      go_region_held3 (fun w' => w'.cell? ⟨b22, 0, none⟩ = some (.bool c0) ∧ w'.cell? ⟨b22, 1, none⟩ = some (.bool c1) ∧ w'.cell? ⟨b22, 2, none⟩ = some (.bool c2) ∧ w'.cell? ⟨b22, 3, none⟩ = some (.bool c3) ∧ w'.cell? ⟨b22, 4, none⟩ = some (.bool c4) ∧ w'.cell? ⟨b22, 5, none⟩ = some (.bool c5) ∧ w'.cell? ⟨b22, 6, none⟩ = some (.bool c6) ∧ w'.cell? ⟨b22, 7, none⟩ = some (.int .i64 mq)) (first
        | with_reducible exact HSR.out _ (row_over6 (HR22.out.grows HG11.out) n2022 _ _ _ _ _ _)
        | with_reducible exact HSR.out _ (HR22.out.grows HG11.out)
        | with_reducible exact HSR.out _ (HR22.out.grows ((Grows.refl _).drew))) (first
        | (go_at_call 19; refine (HFN.out _).mono ?_; rintro _ w11 ⟨rfl, hg11⟩
           have HG11 : Hid (Grows W10 w11) := Lib.hid (((Grows.refl _).drew).trans hg11)
           have hr20 := HR20.out.grows HG11.out
           have l20 := hr20.lt
           have f0 := hr20.frozen 0
           have f1 := hr20.frozen 1
           have f2 := hr20.frozen 2
           have f3 := hr20.frozen 3
           have f4 := hr20.frozen 4
           have f5 := hr20.frozen 5
           have k0 : w11.cell? ⟨b20, 0, none⟩ = some (.int .i64 0) := hr20.cell 0
           have k1 : w11.cell? ⟨b20, 1, none⟩ = some (.bool true) := hr20.cell 1
           have k2 : w11.cell? ⟨b20, 2, none⟩ = some (.bool true) := hr20.cell 2
           have k3 : w11.cell? ⟨b20, 3, none⟩ = some (.bool true) := hr20.cell 3
           have k4 : w11.cell? ⟨b20, 4, none⟩ = some (.bool u) := hr20.cell 4
           have k5 : w11.cell? ⟨b20, 5, none⟩ = some (.int .i64 0) := hr20.cell 5
           clear hg11 hr20))
      all_goals
        go_upto_region 19 with fail
        clear f0 f1 f2 f3 f4 f5 k0 k1 k2 k3 k4 k5 e1 e2 e3 e4 l22 l20 l20' HSR
        obtain ⟨W12, hW12⟩ : ∃ W12, W12 = (((((w11.setCell ⟨b20, 0, none⟩ (.int .i64 mq)).setCell ⟨b20, 1, none⟩ (.bool c1)).setCell ⟨b20, 2, none⟩ (.bool c2)).setCell ⟨b20, 3, none⟩ (.bool c3)).setCell ⟨b20, 4, none⟩ (.bool c4)).setCell ⟨b20, 5, none⟩ (.int .i64 0) := ⟨_, rfl⟩
        rw [← hW12]
        have HR12N := Lib.hid (show Row W12 b12 zeroF 34 by rw [hW12]; exact row_over6 (HR12.out.grows HG11.out) n1220.symm _ _ _ _ _ _)
        have HR13N := Lib.hid (show Row W12 b13 zeroT 36 by rw [hW12]; exact row_over6 (HR13.out.grows HG11.out) n1320.symm _ _ _ _ _ _)
        have HR15N := Lib.hid (show Row W12 b15 #[.int .i64 (fltZ k false), .int .u64 A, .int .u64 0] 36 by rw [hW12]; exact row_over6 (HR15.out.grows HG11.out) n1520.symm _ _ _ _ _ _)
        have HRWN := Lib.hid (show Row W12 b14 (wkL p sec A k 6) 61 by rw [hW12]; exact row_over6 (HRW.out.grows HG11.out) n1420.symm _ _ _ _ _ _)
        have HR20N := Lib.hid (show Row W12 b20 #[.int .i64 mq, .bool c1, .bool c2, .bool c3, .bool c4, .int .i64 0] 34 by rw [hW12]; exact row_put6 (HR20.out.grows HG11.out) _ _ _ _ _ _)
        have HGN := Lib.hid (show Grows w W12 by rw [hW12]; exact grows_fill6 (HG.out.trans HG11.out) HB20.out _ _ _ _ _ _)
        clear HR12 HR13 HR15 HRW HR20 HG HR22 HR24 HG11 HB22 hW12 HFN n1222 n1224 n1322 n1324 n1422 n1424 n1522 n1524 n2022 n2024 n2224 n2412 n2413
        have HR12 := Lib.hid HR12N.out
        have HR13 := Lib.hid HR13N.out
        have HR15 := Lib.hid HR15N.out
        have HRW := Lib.hid HRWN.out
        have HR20 := Lib.hid HR20N.out
        have HG := Lib.hid HGN.out
        clear HR12N HR13N HR15N HRWN HR20N HGN
        have hth0 := HTH0.out (mq * 256 + off) (by have := HOF.out; have := HLT.out; omega)
        obtain ⟨g, hg⟩ : ∃ g, g = mq * 256 + off := ⟨_, rfl⟩
        rw [← hg] at hth0
        rw [show (mq : Int) * 256 + (off : Int) = (g : Int) by omega]
        clear hg HTH0 HLT HOF
        obtain ⟨o, ho⟩ : ∃ o, o = oneV N B sec g k true := ⟨_, rfl⟩
        rw [← ho] at hth0
        have HO := Lib.hid ho
        clear ho
        cases o with
        | none =>
          have HTH := Lib.hid (show ∀ W (b : Nat), Grows w W → Row W b (wkL p sec A k 6) 61 → Calls Tryd.prog 20 #[.pointer (some ⟨b, 0, none⟩), .int .u64 g, .int .i64 k] W fun r w' => r = .returned (.tuple #[.agg #[.int .i64 0, .bool false, .bool false, .bool false, .bool false, .int .i64 0], .agg #[.int .i64 (fltZ k true), .int .u64 A, .int .u64 g]]) ∧ Row w' b (wkL p sec A k 6) 61 ∧ Chg [b] W w' from fun W b hg hr => by have := hth0 W b hg hr; simpa [fndA, trA, zeroF] using this)
          have hnt3 := fun w => neq_trap (fltZ k true) A g 0 0 0 w
          have hz : (fltZ k true == 0) = false := by simp [fltZ_pos]
          rw [hz] at hnt3
          simp only [Bool.false_and, Bool.not_false] at hnt3
          clear hth0 hz HR20
          go_wp2_with fail
          refine (HTH.out _ _ HG.out HRW.out).mono ?_
          rintro _ W5 ⟨rfl, hrw5, hc5⟩
          have HR125 := Lib.hid (HR12.out.chg hc5 (by simp; exact n1412.symm))
          have HR135 := Lib.hid (HR13.out.chg hc5 (by simp; exact n1413.symm))
          have HR155 := Lib.hid (HR15.out.chg hc5 (by simp; exact n1415.symm))
          have HRW5 := Lib.hid hrw5
          have HG5 := Lib.hid (hc5.to_grows HG.out (fun x hx => by simp at hx; subst hx; exact HB.out.2.2))
          clear HR12 HR13 HR15 HRW HG hrw5 hc5 HTH
          go_wp2_with fail
          obtain ⟨W6, hW6⟩ : ∃ W6, W6 = (W5.alloc (Obj.cells #[.int .i64 0, .bool false, .bool false, .bool false, .bool false, .int .i64 0] 34)).alloc (Obj.cells #[.int .i64 (fltZ k true), .int .u64 A, .int .u64 g] 36) := ⟨_, rfl⟩
          obtain ⟨b26, hb26⟩ : ∃ b, b = W5.heap.size + 1 := ⟨_, rfl⟩
          rw [← hW6, ← hb26]
          have hg56 : Grows W5 W6 := by rw [hW6]; exact ((Grows.refl _).alloc _).alloc _
          have HR26 := Lib.hid (show Row W6 b26 #[.int .i64 (fltZ k true), .int .u64 A, .int .u64 g] 36 by rw [hW6]; exact Row.new_at _ _ _ (by simp [hb26]))
          have n1226 : b12 ≠ b26 := by have := HR125.out.lt; omega
          have n1326 : b13 ≠ b26 := by have := HR135.out.lt; omega
          have n2612 := n1226.symm
          have n2613 := n1326.symm
          have HR12 := Lib.hid (HR125.out.grows hg56)
          have HR13 := Lib.hid (HR135.out.grows hg56)
          have HG := Lib.hid (HG5.out.trans hg56)
          clear hW6 hb26 hg56 HR125 HR135 HR155 HG5 HRW5
          have l4 := HR12.out.lt
          have f0 := HR12.out.frozen 0
          have f1 := HR12.out.frozen 1
          have f2 := HR12.out.frozen 2
          have f3 := HR12.out.frozen 3
          have f4 := HR12.out.frozen 4
          have f5 := HR12.out.frozen 5
          have k0 := (HR12.out.cell 0).trans (show zeroF[0]? = some (.int .i64 0) from rfl)
          have k1 := (HR12.out.cell 1).trans (show zeroF[1]? = some (.bool false) from rfl)
          have k2 := (HR12.out.cell 2).trans (show zeroF[2]? = some (.bool false) from rfl)
          have k3 := (HR12.out.cell 3).trans (show zeroF[3]? = some (.bool false) from rfl)
          have k4 := (HR12.out.cell 4).trans (show zeroF[4]? = some (.bool false) from rfl)
          have k5 := (HR12.out.cell 5).trans (show zeroF[5]? = some (.int .i64 0) from rfl)
          have l5 := HR13.out.lt
          have g0 := HR13.out.frozen 0
          have g1 := HR13.out.frozen 1
          have g2 := HR13.out.frozen 2
          have m0 := (HR13.out.cell 0).trans (show zeroT[0]? = some (.int .i64 0) from rfl)
          have m1 := (HR13.out.cell 1).trans (show zeroT[1]? = some (.int .u64 0) from rfl)
          have m2 := (HR13.out.cell 2).trans (show zeroT[2]? = some (.int .u64 0) from rfl)
          have ls := HR26.out.lt
          have x0 := (HR26.out.cell 0).trans (show (#[Value.int .i64 (fltZ k true), .int .u64 A, .int .u64 g] : Array Value)[0]? = some (.int .i64 (fltZ k true)) from rfl)
          have x1 := (HR26.out.cell 1).trans (show (#[Value.int .i64 (fltZ k true), .int .u64 A, .int .u64 g] : Array Value)[1]? = some (.int .u64 A) from rfl)
          have x2 := (HR26.out.cell 2).trans (show (#[Value.int .i64 (fltZ k true), .int .u64 A, .int .u64 g] : Array Value)[2]? = some (.int .u64 g) from rfl)
          go_region
          all_goals
            clear l4 f0 f1 f2 f3 f4 f5 k0 k1 k2 k3 k4 k5 l5 g0 g1 g2 m0 m1 m2 ls x0 x1 x2
            go_wp2_with fail
            have hF12 := ((row_over3 (row_fill6 HR12.out 0 0 false false false false) n1312 (fltZ k true) A g).grows ((Grows.refl _).drew)).cell
            have hF13 := ((row_fill3 (row_over6 HR13.out n1312.symm 0 0 false false false false) (fltZ k true) A g).grows ((Grows.refl _).drew)).cell
            exact bodyPost_ret (v := .tuple #[.agg zeroF, .agg #[.int .i64 (fltZ k true), .int .u64 A, .int .u64 g]]) (by simp [results, Tryd.results6, go_sem, hF12, hF13, zeroF]) rfl ⟨⟨_, rfl, HN.out _ g (fltZ_pos _ _)⟩, (grows_fill3 (grows_fill6 HG.out HB.out.1 _ _ _ _ _ _) HB.out.2.1 _ _ _).drew⟩
        | some v =>
          have HTH := Lib.hid (show ∀ W (b : Nat), Grows w W → Row W b (wkL p sec A k 6) 61 → Calls Tryd.prog 20 #[.pointer (some ⟨b, 0, none⟩), .int .u64 g, .int .i64 k] W fun r w' => r = .returned (.tuple #[.agg #[.int .i64 (ef v), .bool (eb v 1), .bool (eb v 2), .bool (eb v 3), .bool (eb v 4), .int .i64 2], .agg #[.int .i64 0, .int .u64 0, .int .u64 0]]) ∧ Row w' b (wkL p sec A k 8) 61 ∧ Chg [b] W w' from fun W b hg hr => by have := hth0 W b hg hr; simpa [fndA, trA, zeroT] using this)
          have HY := Lib.hid (show TwoR N B fi sec A k u (.tuple #[.agg #[.int .i64 (ef v), .bool (c1 && eb v 1), .bool (c2 && eb v 2), .bool (c3 && eb v 3), .bool c4, .int .i64 8], .agg zeroT]) from Or.inr ⟨v, g, c1, c2, c3, c4, 8, rfl, HO.out.symm, HOW.out.1, HOW.out.2.1, HOW.out.2.2.1, HOW.out.2.2.2, HA.out, fun h => absurd h (by omega)⟩)
          clear hth0 HOW
          generalize (ef v : Int) = n at *
          generalize eb v 1 = e1 at *
          generalize eb v 2 = e2 at *
          generalize eb v 3 = e3 at *
          generalize eb v 4 = e4 at *
          go_cut [25, 26] from 27 to 155 (fun s25 s26 wx => ∃ (b25 b26 : Nat) (Wc : World), Wc = wx ∧ s25 = .pointer (some ⟨b25, 0, none⟩) ∧ s26 = .pointer (some ⟨b26, 0, none⟩) ∧ Row wx b25 #[.int .i64 n, .bool e1, .bool e2, .bool e3, .bool e4, .int .i64 2] 34 ∧ Row wx b26 #[.int .i64 0, .int .u64 0, .int .u64 0] 36 ∧ Row wx b12 zeroF 34 ∧ Row wx b13 zeroT 36 ∧ Row wx b14 (wkL p sec A k 8) 61 ∧ Row wx b20 #[.int .i64 mq, .bool c1, .bool c2, .bool c3, .bool c4, .int .i64 0] 34 ∧ Grows w wx ∧ b12 ≠ b25 ∧ b13 ≠ b25)
          case first =>
            go_wp2_with fail
            refine (HTH.out _ _ HG.out HRW.out).mono ?_
            rintro _ W5 ⟨rfl, hrw5, hc5⟩
            have HR125 := Lib.hid (HR12.out.chg hc5 (by simp; exact n1412.symm))
            have HR135 := Lib.hid (HR13.out.chg hc5 (by simp; exact n1413.symm))
            have HRW5 := Lib.hid hrw5
            have HG5 := Lib.hid (hc5.to_grows HG.out (fun x hx => by simp at hx; subst hx; exact HB.out.2.2))
            have HR205 := Lib.hid (HR20.out.chg hc5 (by simp; exact n1420.symm))
            clear HR12 HR13 HR15 HRW HG HR20 hrw5 hc5 HTH
            go_wp2_with fail
            go_meet
            have hgg : ∀ (x y : Obj), Grows W5 ((W5.alloc x).alloc y) := fun x y => ((Grows.refl _).alloc _).alloc _
            exact ⟨W5.heap.size, W5.heap.size + 1, _, rfl, rfl, rfl, (Row.new _ _ _).grows ((Grows.refl _).alloc _), Row.new_at _ _ _ (by simp), HR125.out.grows (hgg _ _), HR135.out.grows (hgg _ _), HRW5.out.grows (hgg _ _), HR205.out.grows (hgg _ _), HG5.out.trans (hgg _ _), by have := HR125.out.lt; omega, by have := HR135.out.lt; omega⟩
          case rest =>
            clear HR12 HR13 HR15 HRW HG HR20 HTH
            obtain ⟨b25, b26, W6, rfl, rfl, rfl, h25, h26, h12, h13, h14, h20, hg, n1225, n1325⟩ := hcut
            have HR25 := Lib.hid h25
            have HR12 := Lib.hid h12
            have HR13 := Lib.hid h13
            have HRW := Lib.hid h14
            have HR20 := Lib.hid h20
            have HG := Lib.hid hg
            have q0 : W6.cell? ⟨b26, 0, none⟩ = some (.int .i64 0) := h26.cell 0
            have q1 : W6.cell? ⟨b26, 1, none⟩ = some (.int .u64 0) := h26.cell 1
            have q2 : W6.cell? ⟨b26, 2, none⟩ = some (.int .u64 0) := h26.cell 2
            have q3 := h26.lt
            clear h25 h26 h12 h13 h14 h20 hg
            go_wp2_with fail
            clear q0 q1 q2 q3
            have HS := Lib.hid (fun (w' : World) (h25 : Row w' b25 #[.int .i64 n, .bool e1, .bool e2, .bool e3, .bool e4, .int .i64 2] 34) (h20 : Row w' b20 #[.int .i64 mq, .bool c1, .bool c2, .bool c3, .bool c4, .int .i64 0] 34) (h14 : Row w' b14 (wkL p sec A k 8) 61) => (⟨h25.cell 0, h25.cell 1, h25.cell 2, h25.cell 3, h20.cell 1, h20.cell 2, h20.cell 3, h20.cell 4, h14.cell 4⟩ : w'.cell? ⟨b25, 0, none⟩ = some (.int .i64 n) ∧ w'.cell? ⟨b25, 1, none⟩ = some (.bool e1) ∧ w'.cell? ⟨b25, 2, none⟩ = some (.bool e2) ∧ w'.cell? ⟨b25, 3, none⟩ = some (.bool e3) ∧ w'.cell? ⟨b20, 1, none⟩ = some (.bool c1) ∧ w'.cell? ⟨b20, 2, none⟩ = some (.bool c2) ∧ w'.cell? ⟨b20, 3, none⟩ = some (.bool c3) ∧ w'.cell? ⟨b20, 4, none⟩ = some (.bool c4) ∧ w'.cell? ⟨b14, 4, none⟩ = some (.int .i64 8)))
            have HSD := Lib.hid (HS.out W6.drew (HR25.out.grows ((Grows.refl _).drew)) (HR20.out.grows ((Grows.refl _).drew)) (HRW.out.grows ((Grows.refl _).drew)))
            have HS6 := Lib.hid (fun (m x : Int) (y1 y2 y3 y4 : Bool) => HS.out _ ((row_over6 HR25.out n1225 m x y1 y2 y3 y4).grows ((Grows.refl _).drew)) ((row_over6 HR20.out n1220 m x y1 y2 y3 y4).grows ((Grows.refl _).drew)) ((row_over6 HRW.out (fun e => n1412 e.symm) m x y1 y2 y3 y4).grows ((Grows.refl _).drew)))
            have HS9 := Lib.hid (fun (m x : Int) (y1 y2 y3 y4 : Bool) => HS.out _ ((row_over3 (row_over6 HR25.out n1225 m x y1 y2 y3 y4) n1325 0 0 0).grows ((Grows.refl _).drew)) ((row_over3 (row_over6 HR20.out n1220 m x y1 y2 y3 y4) n1320 0 0 0).grows ((Grows.refl _).drew)) ((row_over3 (row_over6 HRW.out (fun e => n1412 e.symm) m x y1 y2 y3 y4) (fun e => n1413 e.symm) 0 0 0).grows ((Grows.refl _).drew)))
            refine wp_region_held_drew (S := fun w' => w'.cell? ⟨b25, 0, none⟩ = some (.int .i64 n) ∧ w'.cell? ⟨b25, 1, none⟩ = some (.bool e1) ∧ w'.cell? ⟨b25, 2, none⟩ = some (.bool e2) ∧ w'.cell? ⟨b25, 3, none⟩ = some (.bool e3) ∧ w'.cell? ⟨b20, 1, none⟩ = some (.bool c1) ∧ w'.cell? ⟨b20, 2, none⟩ = some (.bool c2) ∧ w'.cell? ⟨b20, 3, none⟩ = some (.bool c3) ∧ w'.cell? ⟨b20, 4, none⟩ = some (.bool c4) ∧ w'.cell? ⟨b14, 4, none⟩ = some (.int .i64 8)) (by kernel_rfl) HSD.out (fun hHeld => ?_)
            clear HS HSD
            refine wpAnyH_take (i := 0) (v := ?_) rfl (by kernel_rfl) (by kernel_rfl) (by kernel_rfl) (fun _ _ _ h => h) (Or.inl ⟨by rfl, ?_⟩) (by assumption) ?_
            rotate_left
            · intro w hSw
              go_simp
              try with_reducible rfl
            simp only [List.getElem_toArray, List.getElem_cons_succ, List.getElem_cons_zero, Act.put, List.setIfInBounds_toArray, List.set_cons_zero, List.set_cons_succ]
            refine wpAnyH_take (i := 1) (v := ?_) rfl (by kernel_rfl) (by kernel_rfl) (by kernel_rfl) (fun _ _ _ h => h) (Or.inl ⟨by rfl, ?_⟩) (by assumption) ?_
            rotate_left
            · intro w hSw
              go_simp
              try with_reducible rfl
            simp only [List.getElem_toArray, List.getElem_cons_succ, List.getElem_cons_zero, Act.put, List.setIfInBounds_toArray, List.set_cons_zero, List.set_cons_succ]
            refine wpAnyH_take (i := 2) (v := ?_) rfl (by kernel_rfl) (by kernel_rfl) (by kernel_rfl) (fun _ _ _ h => h) (Or.inl ⟨by rfl, ?_⟩) (by assumption) ?_
            rotate_left
            · intro w hSw
              go_simp
              try with_reducible rfl
            simp only [List.getElem_toArray, List.getElem_cons_succ, List.getElem_cons_zero, Act.put, List.setIfInBounds_toArray, List.set_cons_zero, List.set_cons_succ]
            refine wpAnyH_take (i := 3) (v := ?_) rfl (by kernel_rfl) (by kernel_rfl) (by kernel_rfl) (fun _ _ _ h => h) (Or.inl ⟨by rfl, ?_⟩) (by assumption) ?_
            rotate_left
            · intro w hSw
              go_simp
              try with_reducible rfl
            simp only [List.getElem_toArray, List.getElem_cons_succ, List.getElem_cons_zero, Act.put, List.setIfInBounds_toArray, List.set_cons_zero, List.set_cons_succ]
            refine wpAnyH_take (i := 4) (v := ?_) rfl (by kernel_rfl) (by kernel_rfl) (by kernel_rfl) (fun _ _ _ h => h) (Or.inl ⟨by rfl, ?_⟩) (by assumption) ?_
            rotate_left
            · intro w hSw
              go_simp
              try with_reducible rfl
            simp only [List.getElem_toArray, List.getElem_cons_succ, List.getElem_cons_zero, Act.put, List.setIfInBounds_toArray, List.set_cons_zero, List.set_cons_succ]
            refine wpAnyH_take (i := 5) (v := cond c1 (.pointer (some ⟨b25, 1, none⟩)) undef) rfl (by kernel_rfl) (by kernel_rfl) (by kernel_rfl) (fun _ _ _ h => h) ?_ (by assumption) ?_
            · cases c1
              · first
                | exact Or.inr ⟨by rfl, rfl⟩
                | (refine Or.inl ⟨by rfl, ?_⟩
                   intro w hSw
                   go_simp
                   first | done | with_reducible rfl | rfl | simp)
              · refine Or.inl ⟨by rfl, ?_⟩
                intro w hSw
                go_simp
                try first | with_reducible rfl | rfl | simp
            simp only [List.getElem_toArray, List.getElem_cons_succ, List.getElem_cons_zero, Act.put, List.setIfInBounds_toArray, List.set_cons_zero, List.set_cons_succ]
            refine wpAnyH_take (i := 6) (v := cond c1 (.bool e1) undef) rfl (by kernel_rfl) (by kernel_rfl) (by kernel_rfl) (fun _ _ _ h => h) ?_ (by assumption) ?_
            · cases c1
              · first
                | exact Or.inr ⟨by rfl, rfl⟩
                | (refine Or.inl ⟨by rfl, ?_⟩
                   intro w hSw
                   go_simp
                   first | done | with_reducible rfl | rfl | simp)
              · refine Or.inl ⟨by rfl, ?_⟩
                intro w hSw
                go_simp
                try first | with_reducible rfl | rfl | simp
            simp only [List.getElem_toArray, List.getElem_cons_succ, List.getElem_cons_zero, Act.put, List.setIfInBounds_toArray, List.set_cons_zero, List.set_cons_succ]
            refine wpAnyH_take (i := 7) (v := .bool (c1 && e1)) rfl (by kernel_rfl) (by kernel_rfl) (by kernel_rfl) (fun _ _ _ h => h) ?_ (by assumption) ?_
            · cases c1
              · first
                | exact Or.inr ⟨by rfl, rfl⟩
                | (refine Or.inl ⟨by rfl, ?_⟩
                   intro w hSw
                   go_simp
                   first | done | with_reducible rfl | rfl | simp)
              · refine Or.inl ⟨by rfl, ?_⟩
                intro w hSw
                go_simp
                try first | with_reducible rfl | rfl | simp
            simp only [List.getElem_toArray, List.getElem_cons_succ, List.getElem_cons_zero, Act.put, List.setIfInBounds_toArray, List.set_cons_zero, List.set_cons_succ]
            generalize cond c1 (.bool e1) undef = vv1
            generalize cond c1 (.pointer (some ⟨b25, 1, none⟩)) undef = vp1
            refine wpAnyH_take (i := 8) (v := ?_) rfl (by kernel_rfl) (by kernel_rfl) (by kernel_rfl) (fun _ _ _ h => h) (Or.inl ⟨by rfl, ?_⟩) (by assumption) ?_
            rotate_left
            · intro w hSw
              go_simp
              try with_reducible rfl
            simp only [List.getElem_toArray, List.getElem_cons_succ, List.getElem_cons_zero, Act.put, List.setIfInBounds_toArray, List.set_cons_zero, List.set_cons_succ]
            refine wpAnyH_take (i := 9) (v := ?_) rfl (by kernel_rfl) (by kernel_rfl) (by kernel_rfl) (fun _ _ _ h => h) (Or.inl ⟨by rfl, ?_⟩) (by assumption) ?_
            rotate_left
            · intro w hSw
              go_simp
              try with_reducible rfl
            simp only [List.getElem_toArray, List.getElem_cons_succ, List.getElem_cons_zero, Act.put, List.setIfInBounds_toArray, List.set_cons_zero, List.set_cons_succ]
            refine wpAnyH_take (i := 10) (v := ?_) rfl (by kernel_rfl) (by kernel_rfl) (by kernel_rfl) (fun _ _ _ h => h) (Or.inl ⟨by rfl, ?_⟩) (by assumption) ?_
            rotate_left
            · intro w hSw
              go_simp
              try with_reducible rfl
            simp only [List.getElem_toArray, List.getElem_cons_succ, List.getElem_cons_zero, Act.put, List.setIfInBounds_toArray, List.set_cons_zero, List.set_cons_succ]
            refine wpAnyH_take (i := 11) (v := cond c2 (.pointer (some ⟨b25, 2, none⟩)) undef) rfl (by kernel_rfl) (by kernel_rfl) (by kernel_rfl) (fun _ _ _ h => h) ?_ (by assumption) ?_
            · cases c2
              · first
                | exact Or.inr ⟨by rfl, rfl⟩
                | (refine Or.inl ⟨by rfl, ?_⟩
                   intro w hSw
                   go_simp
                   first | done | with_reducible rfl | rfl | simp)
              · refine Or.inl ⟨by rfl, ?_⟩
                intro w hSw
                go_simp
                try first | with_reducible rfl | rfl | simp
            simp only [List.getElem_toArray, List.getElem_cons_succ, List.getElem_cons_zero, Act.put, List.setIfInBounds_toArray, List.set_cons_zero, List.set_cons_succ]
            refine wpAnyH_take (i := 12) (v := cond c2 (.bool e2) undef) rfl (by kernel_rfl) (by kernel_rfl) (by kernel_rfl) (fun _ _ _ h => h) ?_ (by assumption) ?_
            · cases c2
              · first
                | exact Or.inr ⟨by rfl, rfl⟩
                | (refine Or.inl ⟨by rfl, ?_⟩
                   intro w hSw
                   go_simp
                   first | done | with_reducible rfl | rfl | simp)
              · refine Or.inl ⟨by rfl, ?_⟩
                intro w hSw
                go_simp
                try first | with_reducible rfl | rfl | simp
            simp only [List.getElem_toArray, List.getElem_cons_succ, List.getElem_cons_zero, Act.put, List.setIfInBounds_toArray, List.set_cons_zero, List.set_cons_succ]
            refine wpAnyH_take (i := 13) (v := .bool (c2 && e2)) rfl (by kernel_rfl) (by kernel_rfl) (by kernel_rfl) (fun _ _ _ h => h) ?_ (by assumption) ?_
            · cases c2
              · first
                | exact Or.inr ⟨by rfl, rfl⟩
                | (refine Or.inl ⟨by rfl, ?_⟩
                   intro w hSw
                   go_simp
                   first | done | with_reducible rfl | rfl | simp)
              · refine Or.inl ⟨by rfl, ?_⟩
                intro w hSw
                go_simp
                try first | with_reducible rfl | rfl | simp
            simp only [List.getElem_toArray, List.getElem_cons_succ, List.getElem_cons_zero, Act.put, List.setIfInBounds_toArray, List.set_cons_zero, List.set_cons_succ]
            generalize cond c2 (.bool e2) undef = vv2
            generalize cond c2 (.pointer (some ⟨b25, 2, none⟩)) undef = vp2
            refine wpAnyH_take (i := 14) (v := ?_) rfl (by kernel_rfl) (by kernel_rfl) (by kernel_rfl) (fun _ _ _ h => h) (Or.inl ⟨by rfl, ?_⟩) (by assumption) ?_
            rotate_left
            · intro w hSw
              go_simp
              try with_reducible rfl
            simp only [List.getElem_toArray, List.getElem_cons_succ, List.getElem_cons_zero, Act.put, List.setIfInBounds_toArray, List.set_cons_zero, List.set_cons_succ]
            refine wpAnyH_take (i := 15) (v := ?_) rfl (by kernel_rfl) (by kernel_rfl) (by kernel_rfl) (fun _ _ _ h => h) (Or.inl ⟨by rfl, ?_⟩) (by assumption) ?_
            rotate_left
            · intro w hSw
              go_simp
              try with_reducible rfl
            simp only [List.getElem_toArray, List.getElem_cons_succ, List.getElem_cons_zero, Act.put, List.setIfInBounds_toArray, List.set_cons_zero, List.set_cons_succ]
            refine wpAnyH_take (i := 16) (v := ?_) rfl (by kernel_rfl) (by kernel_rfl) (by kernel_rfl) (fun _ _ _ h => h) (Or.inl ⟨by rfl, ?_⟩) (by assumption) ?_
            rotate_left
            · intro w hSw
              go_simp
              try with_reducible rfl
            simp only [List.getElem_toArray, List.getElem_cons_succ, List.getElem_cons_zero, Act.put, List.setIfInBounds_toArray, List.set_cons_zero, List.set_cons_succ]
            refine wpAnyH_take (i := 17) (v := cond c3 (.pointer (some ⟨b25, 3, none⟩)) undef) rfl (by kernel_rfl) (by kernel_rfl) (by kernel_rfl) (fun _ _ _ h => h) ?_ (by assumption) ?_
            · cases c3
              · first
                | exact Or.inr ⟨by rfl, rfl⟩
                | (refine Or.inl ⟨by rfl, ?_⟩
                   intro w hSw
                   go_simp
                   first | done | with_reducible rfl | rfl | simp)
              · refine Or.inl ⟨by rfl, ?_⟩
                intro w hSw
                go_simp
                try first | with_reducible rfl | rfl | simp
            simp only [List.getElem_toArray, List.getElem_cons_succ, List.getElem_cons_zero, Act.put, List.setIfInBounds_toArray, List.set_cons_zero, List.set_cons_succ]
            refine wpAnyH_take (i := 18) (v := cond c3 (.bool e3) undef) rfl (by kernel_rfl) (by kernel_rfl) (by kernel_rfl) (fun _ _ _ h => h) ?_ (by assumption) ?_
            · cases c3
              · first
                | exact Or.inr ⟨by rfl, rfl⟩
                | (refine Or.inl ⟨by rfl, ?_⟩
                   intro w hSw
                   go_simp
                   first | done | with_reducible rfl | rfl | simp)
              · refine Or.inl ⟨by rfl, ?_⟩
                intro w hSw
                go_simp
                try first | with_reducible rfl | rfl | simp
            simp only [List.getElem_toArray, List.getElem_cons_succ, List.getElem_cons_zero, Act.put, List.setIfInBounds_toArray, List.set_cons_zero, List.set_cons_succ]
            refine wpAnyH_take (i := 19) (v := .bool (c3 && e3)) rfl (by kernel_rfl) (by kernel_rfl) (by kernel_rfl) (fun _ _ _ h => h) ?_ (by assumption) ?_
            · cases c3
              · first
                | exact Or.inr ⟨by rfl, rfl⟩
                | (refine Or.inl ⟨by rfl, ?_⟩
                   intro w hSw
                   go_simp
                   first | done | with_reducible rfl | rfl | simp)
              · refine Or.inl ⟨by rfl, ?_⟩
                intro w hSw
                go_simp
                try first | with_reducible rfl | rfl | simp
            simp only [List.getElem_toArray, List.getElem_cons_succ, List.getElem_cons_zero, Act.put, List.setIfInBounds_toArray, List.set_cons_zero, List.set_cons_succ]
            generalize cond c3 (.bool e3) undef = vv3
            generalize cond c3 (.pointer (some ⟨b25, 3, none⟩)) undef = vp3
            refine wpAnyH_take (i := 20) (v := ?_) rfl (by kernel_rfl) (by kernel_rfl) (by kernel_rfl) (fun _ _ _ h => h) (Or.inl ⟨by rfl, ?_⟩) (by assumption) ?_
            rotate_left
            · intro w hSw
              go_simp
              try with_reducible rfl
            simp only [List.getElem_toArray, List.getElem_cons_succ, List.getElem_cons_zero, Act.put, List.setIfInBounds_toArray, List.set_cons_zero, List.set_cons_succ]
            refine wpAnyH_take (i := 21) (v := ?_) rfl (by kernel_rfl) (by kernel_rfl) (by kernel_rfl) (fun _ _ _ h => h) (Or.inl ⟨by rfl, ?_⟩) (by assumption) ?_
            rotate_left
            · intro w hSw
              go_simp
              try with_reducible rfl
            simp only [List.getElem_toArray, List.getElem_cons_succ, List.getElem_cons_zero, Act.put, List.setIfInBounds_toArray, List.set_cons_zero, List.set_cons_succ]
            refine wpAnyH_take (i := 22) (v := ?_) rfl (by kernel_rfl) (by kernel_rfl) (by kernel_rfl) (fun _ _ _ h => h) (Or.inl ⟨by rfl, ?_⟩) (by assumption) ?_
            rotate_left
            · intro w hSw
              go_simp
              try with_reducible rfl
            simp only [List.getElem_toArray, List.getElem_cons_succ, List.getElem_cons_zero, Act.put, List.setIfInBounds_toArray, List.set_cons_zero, List.set_cons_succ]
            refine wpAnyH_take (i := 23) (v := ?_) rfl (by kernel_rfl) (by kernel_rfl) (by kernel_rfl) (fun _ _ _ h => h) (Or.inl ⟨by rfl, ?_⟩) (by assumption) ?_
            rotate_left
            · intro w hSw
              go_simp
              try with_reducible rfl
            simp only [List.getElem_toArray, List.getElem_cons_succ, List.getElem_cons_zero, Act.put, List.setIfInBounds_toArray, List.set_cons_zero, List.set_cons_succ]
            refine wpAnyH_take (i := 24) (v := ?_) rfl (by kernel_rfl) (by kernel_rfl) (by kernel_rfl) (fun _ _ _ h => h) (Or.inl ⟨by rfl, ?_⟩) (by assumption) ?_
            rotate_left
            · intro w hSw
              go_simp
              try with_reducible rfl
            simp only [List.getElem_toArray, List.getElem_cons_succ, List.getElem_cons_zero, Act.put, List.setIfInBounds_toArray, List.set_cons_zero, List.set_cons_succ]
            refine wpAnyH_take (i := 25) (v := ?_) rfl (by kernel_rfl) (by kernel_rfl) (by kernel_rfl) (fun _ _ _ h => h) (Or.inl ⟨by rfl, ?_⟩) (by assumption) ?_
            rotate_left
            · intro w hSw
              go_simp
              try with_reducible rfl
            simp only [List.getElem_toArray, List.getElem_cons_succ, List.getElem_cons_zero, Act.put, List.setIfInBounds_toArray, List.set_cons_zero, List.set_cons_succ]
            refine wpAnyH_take (i := 26) (v := ?_) rfl (by kernel_rfl) (by kernel_rfl) (by kernel_rfl) (fun _ _ _ h => h) (Or.inl ⟨by rfl, ?_⟩) (by assumption) ?_
            rotate_left
            · intro w hSw
              go_simp
              try with_reducible rfl
            simp only [List.getElem_toArray, List.getElem_cons_succ, List.getElem_cons_zero, Act.put, List.setIfInBounds_toArray, List.set_cons_zero, List.set_cons_succ]
            refine wpAnyH_take (i := 27) (v := ?_) rfl (by kernel_rfl) (by kernel_rfl) (by kernel_rfl) (fun _ _ _ h => h) (Or.inl ⟨by rfl, ?_⟩) (by assumption) ?_
            rotate_left
            · intro w hSw
              go_simp
              try with_reducible rfl
            simp only [List.getElem_toArray, List.getElem_cons_succ, List.getElem_cons_zero, Act.put, List.setIfInBounds_toArray, List.set_cons_zero, List.set_cons_succ]
            have l4 := HR12.out.lt
            have f0 := HR12.out.frozen 0
            have f1 := HR12.out.frozen 1
            have f2 := HR12.out.frozen 2
            have f3 := HR12.out.frozen 3
            have f4 := HR12.out.frozen 4
            have f5 := HR12.out.frozen 5
            have k0 := (HR12.out.cell 0).trans (show zeroF[0]? = some (.int .i64 0) from rfl)
            have k1 := (HR12.out.cell 1).trans (show zeroF[1]? = some (.bool false) from rfl)
            have k2 := (HR12.out.cell 2).trans (show zeroF[2]? = some (.bool false) from rfl)
            have k3 := (HR12.out.cell 3).trans (show zeroF[3]? = some (.bool false) from rfl)
            have k4 := (HR12.out.cell 4).trans (show zeroF[4]? = some (.bool false) from rfl)
            have k5 := (HR12.out.cell 5).trans (show zeroF[5]? = some (.int .i64 0) from rfl)
            have l5 := HR13.out.lt
            have g0 := HR13.out.frozen 0
            have g1 := HR13.out.frozen 1
            have g2 := HR13.out.frozen 2
            have m0 := (HR13.out.cell 0).trans (show zeroT[0]? = some (.int .i64 0) from rfl)
            have m1 := (HR13.out.cell 1).trans (show zeroT[1]? = some (.int .u64 0) from rfl)
            have m2 := (HR13.out.cell 2).trans (show zeroT[2]? = some (.int .u64 0) from rfl)
            refine wpAnyH_ready (rs := [28]) (by kernel_rfl) (by simp) ?_
            refine AllReadyH.cons rfl (fun K hK => ?_) AllReadyH.nil
            go_simp
            refine hK.out _ _ (HS6.out _ _ _ _ _ _) (fun hHeld2 => ?_)
            clear hK K hHeld hHeld2
            try simp only [List.getElem_toArray, List.getElem_cons_succ, List.getElem_cons_zero, Act.put, List.setIfInBounds_toArray, List.set_cons_zero, List.set_cons_succ]
            refine wpAnyH_ready (rs := [29]) (by kernel_rfl) (by simp) ?_
            refine AllReadyH.cons rfl (fun K hK => ?_) AllReadyH.nil
            go_simp
            refine hK.out _ _ (HS9.out _ _ _ _ _ _) (fun hHeld2 => ?_)
            clear hK K hHeld2 HS6 HS9 l4 f0 f1 f2 f3 f4 f5 k0 k1 k2 k3 k4 k5 l5 g0 g1 g2 m0 m1 m2
            try simp only [List.getElem_toArray, List.getElem_cons_succ, List.getElem_cons_zero, Act.put, List.setIfInBounds_toArray, List.set_cons_zero, List.set_cons_succ]
            refine wpAnyH_done (by kernel_rfl) ?_ _
            rename_i KX hKX
            refine hKX _ _ ?_
            refine wp_ret ?_
            show bodyPost Tryd.prog _ _ Exit.ret _ _
            have hF12 := ((row_over3 (row_fill6 HR12.out n 8 (c1 && e1) (c2 && e2) (c3 && e3) c4) n1312 0 0 0).grows ((Grows.refl _).drew)).cell
            have hF13 := ((row_fill3 (row_over6 HR13.out n1312.symm n 8 (c1 && e1) (c2 && e2) (c3 && e3) c4) 0 0 0).grows ((Grows.refl _).drew)).cell
            exact bodyPost_ret (v := .tuple #[.agg #[.int .i64 n, .bool (c1 && e1), .bool (c2 && e2), .bool (c3 && e3), .bool c4, .int .i64 8], .agg zeroT]) (by simp [results, Tryd.results6, go_sem, hF12, hF13, zeroT]) rfl ⟨⟨_, rfl, HY.out⟩, (grows_fill3 (grows_fill6 HG.out HB.out.1 _ _ _ _ _ _) HB.out.2.1 _ _ _).drew⟩
end Go.Proofs.YtnkmelhggnelmaaDoor
