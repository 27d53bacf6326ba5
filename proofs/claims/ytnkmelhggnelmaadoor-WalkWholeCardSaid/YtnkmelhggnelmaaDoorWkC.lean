/- The package walk over a memory: read. -/
import Derived.Test.YtnkmelhggnelmaaDoorWkB
import Derived.Deep.RegionWith
namespace Go.Proofs.YtnkmelhggnelmaaDoor
open Go Go.RowKit
set_option linter.unusedSimpArgs false
set_option linter.unusedVariables false
set_option maxRecDepth 100000
theorem neq_trap (a b c a' b' c' : Int) (w : World) :
   (binOp .neq 36 (.agg #[.int .i64 a, .int .u64 b, .int .u64 c]) (.agg #[.int .i64 a', .int .u64 b', .int .u64 c'])).run Tryd.prog w = .ok (.bool (!(a == a' && (b == b' && c == c')))) w := by
  simp [go_sem]
  iterate 3
    split
    rotate_left
    · simp_all
  simp_all
def rdE (N : Nat) (B : Nat → Nat) (o : Option Nat) (ow : Nat) : Nat := match o with
  | some v => gv N B (ef v * 256 + ow % 256)
  | none => 0
set_option maxHeartbeats 1000000 in
theorem read_any {w0 w : World} {p q N wb : Nat} {B : Nat → Nat} (hW : Widths w0) (hP : Places w0) (h : Mem w0 p q N B) (hg0 : Grows w0 w) (hwb : w0.heap.size ≤ wb) {sec : Int} {A : Nat} {k lv : Int} (hr : Row w wb (wkL p sec A k lv) 61) (hl : 0 ≤ lv ∧ lv ≤ 90) {t pl : Nat} (ht : t ≤ 1099511627776) (hpl : pl < 32) :
    Calls Tryd.prog 16 #[.pointer (some ⟨wb, 0, none⟩), .int .i64 t, .int .i64 pl] w fun r w' => r = .returned (.tuple #[.agg (entA (rdE N B (oneV N B sec (t * 256 + 8 * pl) 1 true) (t * 256 + 8 * pl))), .bool (gok (rdE N B (oneV N B sec (t * 256 + 8 * pl) 1 true) (t * 256 + 8 * pl))), .agg (trA (oneV N B sec (t * 256 + 8 * pl) 1 true) k A (t * 256 + 8 * pl))]) ∧ Row w' wb (wkL p sec A k (lv + if (oneV N B sec (t * 256 + 8 * pl) 1 true).isSome then 3 else 0)) 61 ∧ Chg [wb] w w' := by
  have hsl := fun W => slot_any W ht hpl
  have how : t * 256 + 8 * pl < 18446744073709551616 := by omega
  generalize t * 256 + 8 * pl = ow at *
  have hth := fun W (hg : Grows w W) => through_any (hW.grows (hg0.trans hg)) (hP.grows (hg0.trans hg)) (MemAt.grows h (hg0.trans hg)) (hr.grows hg) (by omega) how 1
  have hge := fun W (hg : Grows w0 W) (v : Nat) => get_any (hW.grows hg) (hP.grows hg) (MemAt.grows h hg) (ef v * 256 + ow % 256) (by have := ef_lt v; omega)
  obtain ⟨o, ho⟩ : ∃ o, o = oneV N B sec ow 1 true := ⟨_, rfl⟩
  rw [← ho] at hth ⊢
  have HG0 := Lib.hid (show ∀ W, Chg [wb] w W → Grows w0 W from fun W hc => hc.to_grows hg0 (fun k hk => by simp at hk; subst hk; exact hwb))
  clear ho hW hP h ht hpl hg0 hwb
  cases o with
  | none =>
    have HTH := Lib.hid (show ∀ W, Grows w W → Calls Tryd.prog 20 #[.pointer (some ⟨wb, 0, none⟩), .int .u64 ow, .int .i64 1] W fun r w' => r = .returned (.tuple #[.agg #[.int .i64 0, .bool false, .bool false, .bool false, .bool false, .int .i64 0], .agg #[.int .i64 (fltZ k true), .int .u64 A, .int .u64 ow]]) ∧ Row w' wb (wkL p sec A k lv) 61 ∧ Chg [wb] W w' from fun W hg => by have := hth W hg; simpa [fndA, trA, zeroF] using this)
    have hnt := fun w => neq_trap (fltZ k true) A ow 0 0 0 w
    have hz : (fltZ k true == 0) = false := by simp [fltZ_pos]
    rw [hz] at hnt
    simp only [Bool.false_and, Bool.not_false] at hnt
    have HHL := Lib.hid hl
    clear hth hge hz hl how
    go_enter Tryd.func16, Tryd.ntmps16
    go_wp2_with fail
    obtain ⟨W1, hW1⟩ : ∃ W1, W1 = (w.alloc (Obj.cells zeroE 26)).alloc (Obj.cells zeroT 36) := ⟨_, rfl⟩
    obtain ⟨b8, hb8⟩ : ∃ b, b = w.heap.size + 1 := ⟨_, rfl⟩
    obtain ⟨b6, hb6⟩ : ∃ b, b = w.heap.size := ⟨_, rfl⟩
    have hr6 : Row W1 b6 zeroE 26 := by rw [hW1, hb6]; exact (Row.new _ _ _).grows ((Grows.refl _).alloc _)
    have hr8 : Row W1 b8 zeroT 36 := by rw [hW1]; exact Row.new_at _ _ _ (by simp [hb8])
    have hg1 : Grows w W1 := by rw [hW1]; exact ((Grows.refl _).alloc _).alloc _
    have hwl := hr.lt
    have hne : wb ≠ b6 ∧ wb ≠ b8 ∧ b6 ≠ b8 := by omega
    have HB := Lib.hid (show w.heap.size ≤ b6 ∧ w.heap.size ≤ b8 by omega)
    change Calls _ _ _ ((w.alloc (Obj.cells zeroE 26)).alloc (Obj.cells zeroT 36)) _
    rw [← hW1]
    rw [← hb8, ← hb6]
    clear hwl hb8 hb6 hW1
    refine (hsl W1).mono ?_
    rintro _ _ ⟨rfl, hw⟩
    rw [hw]
    clear hw
    clear hsl
    go_wp2_with fail
    refine (HTH.out W1 hg1).mono ?_
    rintro _ w2 ⟨rfl, hrw2, hc2⟩
    have hr62 := hr6.chg hc2 (by simp; exact fun e => hne.1 e.symm)
    have hr82 := hr8.chg hc2 (by simp; exact fun e => hne.2.1 e.symm)
    have HC2 := Lib.hid ((Chg.of_grows (S := [wb]) hg1).step hc2 (fun x hx => Or.inl hx))
    clear hr6 hr8 hg1 hc2 HTH
    go_wp2_with fail
    obtain ⟨W3, hW3⟩ : ∃ W3, W3 = (w2.alloc (Obj.cells #[.int .i64 0, .bool false, .bool false, .bool false, .bool false, .int .i64 0] 34)).alloc (Obj.cells #[.int .i64 (fltZ k true), .int .u64 A, .int .u64 ow] 36) := ⟨_, rfl⟩
    obtain ⟨b11, hb11⟩ : ∃ b, b = w2.heap.size + 1 := ⟨_, rfl⟩
    rw [← hW3, ← hb11]
    have hg3 : Grows w2 W3 := by rw [hW3]; exact ((Grows.refl _).alloc _).alloc _
    have HR11 := Lib.hid (show Row W3 b11 #[.int .i64 (fltZ k true), .int .u64 A, .int .u64 ow] 36 by rw [hW3]; exact Row.new_at _ _ _ (by simp [hb11]))
    have HR63 := Lib.hid (hr62.grows hg3)
    have HR83 := Lib.hid (hr82.grows hg3)
    have HRW3 := Lib.hid (hrw2.grows hg3)
    have HC3 := Lib.hid (HC2.out.trans (Chg.of_grows hg3))
    have n116 : b11 ≠ b6 := by have := hr62.lt; omega
    have n118 : b11 ≠ b8 := by have := hr82.lt; omega
    have n611 := n116.symm
    have n811 := n118.symm
    have n68 : b6 ≠ b8 := hne.2.2
    have n86 := n68.symm
    have n6 : b6 ≠ wb := fun e => hne.1 e.symm
    have n8 : b8 ≠ wb := fun e => hne.2.1 e.symm
    clear hW3 hb11 hg3 hr62 hr82 hrw2 hnt hne HC2 hr
    have l11 := HR11.out.lt
    have x0 : W3.cell? ⟨b11, 0, none⟩ = some (.int .i64 (fltZ k true)) := HR11.out.cell 0
    have x1 : W3.cell? ⟨b11, 1, none⟩ = some (.int .u64 A) := HR11.out.cell 1
    have x2 : W3.cell? ⟨b11, 2, none⟩ = some (.int .u64 ow) := HR11.out.cell 2
    have l6 := HR63.out.lt
    have f0 := HR63.out.frozen 0
    have f1 := HR63.out.frozen 1
    have f2 := HR63.out.frozen 2
    have f3 := HR63.out.frozen 3
    have f4 := HR63.out.frozen 4
    have f5 := HR63.out.frozen 5
    have f6 := HR63.out.frozen 6
    have f7 := HR63.out.frozen 7
    obtain ⟨y0, y1, y2, y3, y4, y5, y6, y7⟩ := row8 (show Row W3 b6 #[.bool false, .bool false, .bool false, .bool false, .bool false, .bool false, .bool false, .int .i64 0] 26 from HR63.out)
    have l8 := HR83.out.lt
    have g0 := HR83.out.frozen 0
    have g1 := HR83.out.frozen 1
    have g2 := HR83.out.frozen 2
    have m0 : W3.cell? ⟨b8, 0, none⟩ = some (.int .i64 0) := HR83.out.cell 0
    have m1 : W3.cell? ⟨b8, 1, none⟩ = some (.int .u64 0) := HR83.out.cell 1
    have m2 : W3.cell? ⟨b8, 2, none⟩ = some (.int .u64 0) := HR83.out.cell 2
    go_region
    all_goals
      go_wp2_with fail
      have hF6 := ((row_over3 (row_fill8 HR63.out false false false false false false false 0) n86 (fltZ k true) A ow).grows ((Grows.refl _).drew)).cell
      have hF8 := ((row_fill3 (row_over8 HR83.out n68 false false false false false false false 0) (fltZ k true) A ow).grows ((Grows.refl _).drew)).cell
      have hFW := (row_over3 (row_over8 HRW3.out n6 false false false false false false false 0) n8 (fltZ k true) A ow).grows ((Grows.refl _).drew)
      unfold World.fill8 at hF6
      exact bodyPost_ret (v := .tuple #[.agg zeroE, .bool false, .agg #[.int .i64 (fltZ k true), .int .u64 A, .int .u64 ow]]) (by simp [results, Tryd.results16, go_sem, hF6, hF8, zeroE]) rfl ⟨by simp [rdE, gok0, entA, eb, ef, zeroE, trA], by first | exact hFW | (rw [show (lv + if (none : Option Nat).isSome = true then 3 else 0) = lv by simp]; exact hFW), (((((((((((HC3.out.setCell (Or.inr HB.out.1) _ _).setCell (Or.inr HB.out.1) _ _).setCell (Or.inr HB.out.1) _ _).setCell (Or.inr HB.out.1) _ _).setCell (Or.inr HB.out.1) _ _).setCell (Or.inr HB.out.1) _ _).setCell (Or.inr HB.out.1) _ _).setCell (Or.inr HB.out.1) _ _).setCell (Or.inr HB.out.2) _ _).setCell (Or.inr HB.out.2) _ _).setCell (Or.inr HB.out.2) _ _).trans (Chg.of_grows ((Grows.refl _).drew))⟩
  | some v =>
    obtain ⟨v2, hv2⟩ : ∃ v2, v2 = gv N B (ef v * 256 + ow % 256) := ⟨_, rfl⟩
    have HTH := Lib.hid (show ∀ W, Grows w W → Calls Tryd.prog 20 #[.pointer (some ⟨wb, 0, none⟩), .int .u64 ow, .int .i64 1] W fun r w' => r = .returned (.tuple #[.agg #[.int .i64 (ef v), .bool (eb v 1), .bool (eb v 2), .bool (eb v 3), .bool (eb v 4), .int .i64 2], .agg #[.int .i64 0, .int .u64 0, .int .u64 0]]) ∧ Row w' wb (wkL p sec A k (lv + 2)) 61 ∧ Chg [wb] W w' from fun W hg => by have := hth W hg; simpa [fndA, trA, zeroT] using this)
    have hnt := fun w => neq_trap 0 0 0 0 0 0 w
    simp only [beq_self_eq_true, Bool.and_self, Bool.not_true] at hnt
    have HGM := Lib.hid (show ∀ W, Grows w0 W → Calls Tryd.prog 21 #[rdr p, .int .u64 ((ef v * 256 + ow % 256 : Nat) : Int)] W fun r w' => r = .returned (.tuple #[.agg (entA v2), .bool (gok v2)]) ∧ Grows W w' from fun W h1 => by rw [hv2]; exact hge W h1 v)
    have HHL := Lib.hid hl
    have HV2 := Lib.hid hv2
    have e1 : IntKind.u64.wrap (ef v : Int) = ef v := wrap_u64_small (by omega) (by have := ef_lt v; omega)
    have e2 : IntKind.u64.wrap ((ef v : Int) * 256) = (ef v : Int) * 256 := wrap_u64_small (by omega) (by have := ef_lt v; omega)
    have e3 : IntKind.u64.wrap ((ef v : Int) * 256 + (ow : Int).tmod 256) = ((ef v * 256 + ow % 256 : Nat) : Int) := by rw [Int.tmod_eq_emod_of_nonneg (by omega), wrap_u64_small (by omega) (by have := ef_lt v; omega)]; omega
    have wl : IntKind.i64.wrap (lv + 2 + 1) = lv + 3 := by rw [IntKind.wrap_i64]; omega
    clear hth hge hl how hv2
    have HEN := Lib.hid (show entA v2 = #[.bool (eb v2 0), .bool (eb v2 1), .bool (eb v2 2), .bool (eb v2 3), .bool (eb v2 4), .bool (eb v2 5), .bool (eb v2 6), .int .i64 (ef v2)] from rfl)
    go_enter Tryd.func16, Tryd.ntmps16
    go_wp2_with fail
    obtain ⟨W1, hW1⟩ : ∃ W1, W1 = (w.alloc (Obj.cells zeroE 26)).alloc (Obj.cells zeroT 36) := ⟨_, rfl⟩
    obtain ⟨b8, hb8⟩ : ∃ b, b = w.heap.size + 1 := ⟨_, rfl⟩
    obtain ⟨b6, hb6⟩ : ∃ b, b = w.heap.size := ⟨_, rfl⟩
    have hr6 : Row W1 b6 zeroE 26 := by rw [hW1, hb6]; exact (Row.new _ _ _).grows ((Grows.refl _).alloc _)
    have hr8 : Row W1 b8 zeroT 36 := by rw [hW1]; exact Row.new_at _ _ _ (by simp [hb8])
    have hg1 : Grows w W1 := by rw [hW1]; exact ((Grows.refl _).alloc _).alloc _
    have hwl := hr.lt
    have hne : wb ≠ b6 ∧ wb ≠ b8 ∧ b6 ≠ b8 := by omega
    have HB := Lib.hid (show w.heap.size ≤ b6 ∧ w.heap.size ≤ b8 by omega)
    change Calls _ _ _ ((w.alloc (Obj.cells zeroE 26)).alloc (Obj.cells zeroT 36)) _
    rw [← hW1]
    rw [← hb8, ← hb6]
    clear hwl hb8 hb6 hW1
    refine (hsl W1).mono ?_
    rintro _ _ ⟨rfl, hw⟩
    rw [hw]
    clear hw
    clear hsl
    go_wp2_with fail
    refine (HTH.out W1 hg1).mono ?_
    rintro _ w2 ⟨rfl, hrw2, hc2⟩
    have hr62 := hr6.chg hc2 (by simp; exact fun e => hne.1 e.symm)
    have hr82 := hr8.chg hc2 (by simp; exact fun e => hne.2.1 e.symm)
    have HC2 := Lib.hid ((Chg.of_grows (S := [wb]) hg1).step hc2 (fun x hx => Or.inl hx))
    clear hr6 hr8 hg1 hc2 HTH
    go_upto_region 5 with fail
    obtain ⟨W3, hW3⟩ : ∃ W3, W3 = (w2.alloc (Obj.cells #[.int .i64 (ef v), .bool (eb v 1), .bool (eb v 2), .bool (eb v 3), .bool (eb v 4), .int .i64 2] 34)).alloc (Obj.cells #[.int .i64 0, .int .u64 0, .int .u64 0] 36) := ⟨_, rfl⟩
    obtain ⟨b11, hb11⟩ : ∃ b, b = w2.heap.size + 1 := ⟨_, rfl⟩
    obtain ⟨b10, hb10⟩ : ∃ b, b = w2.heap.size := ⟨_, rfl⟩
    rw [← hW3, ← hb11, ← hb10]
    have hg3 : Grows w2 W3 := by rw [hW3]; exact ((Grows.refl _).alloc _).alloc _
    have hr10 : Row W3 b10 #[.int .i64 (ef v), .bool (eb v 1), .bool (eb v 2), .bool (eb v 3), .bool (eb v 4), .int .i64 2] 34 := by rw [hW3, hb10]; exact (Row.new _ _ _).grows ((Grows.refl _).alloc _)
    have hr63 := hr62.grows hg3
    have hr83 := hr82.grows hg3
    have hrw3 := hrw2.grows hg3
    have HC3 := Lib.hid (HC2.out.trans (Chg.of_grows hg3))
    have n106 : b10 ≠ b6 := by have := hr62.lt; omega
    have n108 : b10 ≠ b8 := by have := hr82.lt; omega
    have n10 : b10 ≠ wb := by have := hrw2.lt; omega
    clear hW3 hb10 hb11 hg3 hr62 hr82 hrw2 HC2 hr hnt
    have lw := hrw3.lt
    have d4 : W3.cell? ⟨wb, 4, none⟩ = some (.int .i64 (lv + 2)) := hrw3.cell 4
    have fw := hrw3.frozen 4
    go_upto_region 6 with fail
    obtain ⟨W4, hW4⟩ : ∃ W4, W4 = W3.setCell ⟨wb, 4, none⟩ (.int .i64 (lv + 3)) := ⟨_, rfl⟩
    rw [← hW4]
    have HR64 := Lib.hid (show ∀ w', Grows W4 w' → Row w' b6 zeroE 26 from fun w' hg => by subst hW4; exact (row_setOther hr63 (fun e => hne.1 e) _).grows hg)
    have HR84 := Lib.hid (show ∀ w', Grows W4 w' → Row w' b8 zeroT 36 from fun w' hg => by subst hW4; exact (row_setOther hr83 (fun e => hne.2.1 e) _).grows hg)
    have HRW4 := Lib.hid (show ∀ w', Grows W4 w' → Row w' wb (wkL p sec A k (lv + 3)) 61 from fun w' hg => by subst hW4; exact (hrw3.put 4 (.int .i64 (lv + 3))).grows hg)
    have hr104 : Row W4 b10 #[.int .i64 (ef v), .bool (eb v 1), .bool (eb v 2), .bool (eb v 3), .bool (eb v 4), .int .i64 2] 34 := by rw [hW4]; exact row_setOther hr10 (fun e => n10 e.symm) _
    have HC4 := Lib.hid (show Chg [wb] w W4 by rw [hW4]; exact HC3.out.setCell (b := wb) (Or.inl (by simp)) 4 _)
    have HGM4 := Lib.hid (show ∀ W, Grows W4 W → Calls Tryd.prog 21 #[.iface 29 (.pointer (some ⟨p, 0, none⟩)), .int .u64 ((ef v * 256 + ow % 256 : Nat) : Int)] W fun r w' => r = .returned (.tuple #[.agg (entA v2), .bool (gok v2)]) ∧ Grows W w' from fun W hg => HGM.out W (HG0.out W (HC4.out.trans (Chg.of_grows hg))))
    have HS := Lib.hid (fun (w' : World) (hg' : Grows W4 w') => (⟨(HRW4.out w' hg').cell 0, (hr104.grows hg').cell 0⟩ : w'.cell? ⟨wb, 0, none⟩ = some (.iface 29 (.pointer (some ⟨p, 0, none⟩))) ∧ w'.cell? ⟨b10, 0, none⟩ = some (.int .i64 (ef v))))
    have hlw4 := (HRW4.out W4 (Grows.refl _)).lt
    have hl64 := (HR64.out W4 (Grows.refl _)).lt
    have hl84 := (HR84.out W4 (Grows.refl _)).lt
    have hl104 := hr104.lt
    clear hW4 hr10 hrw3 hr63 hr83 hr104 HC3 HG0 HGM d4 fw lw
    rw [HEN.out] at HGM4
    generalize eb v2 0 = a0 at *
    generalize eb v2 1 = a1 at *
    generalize eb v2 2 = a2 at *
    generalize eb v2 3 = a3 at *
    generalize eb v2 4 = a4 at *
    generalize eb v2 5 = a5 at *
    generalize eb v2 6 = a6 at *
    generalize (ef v2 : Int) = n2 at *
    obtain ⟨rb, hrb⟩ : ∃ rb, rb = gok v2 := ⟨_, rfl⟩
    rw [← hrb] at HGM4
    have HRB := Lib.hid hrb.symm
    clear hrb
    go_region_held3 (fun w' => w'.cell? ⟨wb, 0, none⟩ = some (.iface 29 (.pointer (some ⟨p, 0, none⟩))) ∧ w'.cell? ⟨b10, 0, none⟩ = some (.int .i64 (ef v))) (first
      | with_reducible exact HS.out _ (HG5.out.alloc _)
      | with_reducible exact HS.out _ (grows_put8 HG5.out (Nat.le_refl _) _ _ _ _ _ _ _ _)
      | with_reducible exact HS.out _ (grows_put8 (HG5.out.alloc _) HG5.out.size _ _ _ _ _ _ _ _)
      | with_reducible exact HS.out _ HG5.out
      | with_reducible exact HS.out _ (((Grows.refl _).alloc _).drew)
      | with_reducible exact HS.out _ ((Grows.refl _).drew)
      | with_reducible exact HS.out _ (Grows.refl _))
      (first
      | (go_at_call 21; refine (HGM4.out _ (((Grows.refl _).alloc _).drew)).mono ?_; rintro _ w5 ⟨rfl, hg5⟩
         have hr12 : Row w5 W4.heap.size zeroE 26 := ((Row.new W4 zeroE 26).grows ((Grows.refl _).drew)).grows hg5
         have l12 := hr12.lt
         have f0 := hr12.frozen 0
         have f1 := hr12.frozen 1
         have f2 := hr12.frozen 2
         have f3 := hr12.frozen 3
         have f4 := hr12.frozen 4
         have f5 := hr12.frozen 5
         have f6 := hr12.frozen 6
         have f7 := hr12.frozen 7
         obtain ⟨k0, k1, k2, k3, k4, k5, k6, k7⟩ := row8 (show Row w5 W4.heap.size #[.bool false, .bool false, .bool false, .bool false, .bool false, .bool false, .bool false, .int .i64 0] 26 from hr12)
         have HG5 : Hid (Grows W4 w5) := Lib.hid ((((Grows.refl _).alloc _).drew).trans hg5)
         have HR12 := Lib.hid hr12
         clear hg5 hr12)
      | (go_at_call 21; refine (HGM4.out _ ((Grows.refl _).drew)).mono ?_; rintro _ w5 ⟨rfl, hg5⟩
         have f0 : ∀ c t, (w5.alloc (Obj.cells c t)).frozen? ⟨w5.heap.size, 0, none⟩ = false := fun c t => (Row.new w5 c t).frozen 0
         have f1 : ∀ c t, (w5.alloc (Obj.cells c t)).frozen? ⟨w5.heap.size, 1, none⟩ = false := fun c t => (Row.new w5 c t).frozen 1
         have f2 : ∀ c t, (w5.alloc (Obj.cells c t)).frozen? ⟨w5.heap.size, 2, none⟩ = false := fun c t => (Row.new w5 c t).frozen 2
         have f3 : ∀ c t, (w5.alloc (Obj.cells c t)).frozen? ⟨w5.heap.size, 3, none⟩ = false := fun c t => (Row.new w5 c t).frozen 3
         have f4 : ∀ c t, (w5.alloc (Obj.cells c t)).frozen? ⟨w5.heap.size, 4, none⟩ = false := fun c t => (Row.new w5 c t).frozen 4
         have f5 : ∀ c t, (w5.alloc (Obj.cells c t)).frozen? ⟨w5.heap.size, 5, none⟩ = false := fun c t => (Row.new w5 c t).frozen 5
         have f6 : ∀ c t, (w5.alloc (Obj.cells c t)).frozen? ⟨w5.heap.size, 6, none⟩ = false := fun c t => (Row.new w5 c t).frozen 6
         have f7 : ∀ c t, (w5.alloc (Obj.cells c t)).frozen? ⟨w5.heap.size, 7, none⟩ = false := fun c t => (Row.new w5 c t).frozen 7
         have HG5 : Hid (Grows W4 w5) := Lib.hid (((Grows.refl _).drew).trans hg5)
         clear hg5))
    all_goals
      go_upto_region 7 with fail
      first
      | (obtain ⟨W6, hW6⟩ : ∃ W6, W6 = ((((((((w5.setCell ⟨W4.heap.size, 0, none⟩ (.bool a0)).setCell ⟨W4.heap.size, 1, none⟩ (.bool a1)).setCell ⟨W4.heap.size, 2, none⟩ (.bool a2)).setCell ⟨W4.heap.size, 3, none⟩ (.bool a3)).setCell ⟨W4.heap.size, 4, none⟩ (.bool a4)).setCell ⟨W4.heap.size, 5, none⟩ (.bool a5)).setCell ⟨W4.heap.size, 6, none⟩ (.bool a6)).setCell ⟨W4.heap.size, 7, none⟩ (.int .i64 n2)) := ⟨_, rfl⟩
         rw [← hW6]
         have HG6 := Lib.hid (show Grows W4 W6 by rw [hW6]; exact grows_put8 HG5.out (Nat.le_refl _) _ _ _ _ _ _ _ _)
         obtain ⟨b12, hb12⟩ : ∃ b, b = W4.heap.size := ⟨_, rfl⟩
         have HR126 := Lib.hid (show Row W6 b12 #[.bool a0, .bool a1, .bool a2, .bool a3, .bool a4, .bool a5, .bool a6, .int .i64 n2] 26 by rw [hW6, hb12]; exact row_put8 (show Row w5 W4.heap.size #[.bool false, .bool false, .bool false, .bool false, .bool false, .bool false, .bool false, .int .i64 0] 26 from HR12.out) a0 a1 a2 a3 a4 a5 a6 n2)
         rw [← hb12]
         have hbl : W4.heap.size ≤ b12 := by omega
         clear hW6 hb12 HR12 f0 f1 f2 f3 f4 f5 f6 f7 k0 k1 k2 k3 k4 k5 k6 k7 l12)
      | (obtain ⟨W6, hW6⟩ : ∃ W6, W6 = w5.alloc (Obj.cells #[.bool a0, .bool a1, .bool a2, .bool a3, .bool a4, .bool a5, .bool a6, .int .i64 n2] 26) := ⟨_, rfl⟩
         rw [← hW6]
         have HG6 := Lib.hid (show Grows W4 W6 by rw [hW6]; exact HG5.out.alloc _)
         obtain ⟨b12, hb12⟩ : ∃ b, b = w5.heap.size := ⟨_, rfl⟩
         have HR126 := Lib.hid (show Row W6 b12 #[.bool a0, .bool a1, .bool a2, .bool a3, .bool a4, .bool a5, .bool a6, .int .i64 n2] 26 by rw [hW6]; exact Row.new_at _ _ _ hb12)
         rw [← hb12]
         have hbl : W4.heap.size ≤ b12 := by have := HG5.out.size; omega
         clear hW6 hb12 f0 f1 f2 f3 f4 f5 f6 f7)
      have HR66 := Lib.hid (HR64.out _ HG6.out)
      have HR86 := Lib.hid (HR84.out _ HG6.out)
      have HRW6 := Lib.hid (HRW4.out _ HG6.out)
      have HC6 := Lib.hid (HC4.out.trans (Chg.of_grows HG6.out))
      have n126 : b12 ≠ b6 := by omega
      have n128 : b12 ≠ b8 := by omega
      have n68 : b6 ≠ b8 := hne.2.2
      have n86 := n68.symm
      have n6 : b6 ≠ wb := fun e => hne.1 e.symm
      have n8 : b8 ≠ wb := fun e => hne.2.1 e.symm
      have n126' := n126.symm
      have n128' := n128.symm
      clear HS HGM4 HR64 HR84 HRW4 HC4 HG5 HG6 hbl
      have l12 := HR126.out.lt
      obtain ⟨x0, x1, x2, x3, x4, x5, x6, x7⟩ := row8 HR126.out
      have l6 := HR66.out.lt
      have f0 := HR66.out.frozen 0
      have f1 := HR66.out.frozen 1
      have f2 := HR66.out.frozen 2
      have f3 := HR66.out.frozen 3
      have f4 := HR66.out.frozen 4
      have f5 := HR66.out.frozen 5
      have f6 := HR66.out.frozen 6
      have f7 := HR66.out.frozen 7
      obtain ⟨y0, y1, y2, y3, y4, y5, y6, y7⟩ := row8 (show Row W6 b6 #[.bool false, .bool false, .bool false, .bool false, .bool false, .bool false, .bool false, .int .i64 0] 26 from HR66.out)
      have l8 := HR86.out.lt
      have g0 := HR86.out.frozen 0
      have g1 := HR86.out.frozen 1
      have g2 := HR86.out.frozen 2
      have m0 : W6.cell? ⟨b8, 0, none⟩ = some (.int .i64 0) := HR86.out.cell 0
      have m1 : W6.cell? ⟨b8, 1, none⟩ = some (.int .u64 0) := HR86.out.cell 1
      have m2 : W6.cell? ⟨b8, 2, none⟩ = some (.int .u64 0) := HR86.out.cell 2
      go_wp2_with fail
      have hF6 := (row_over3 (row_fill8 HR66.out a0 a1 a2 a3 a4 a5 a6 n2) n86 0 0 0).cell
      have hF8 := (row_fill3 (row_over8 HR86.out n68 a0 a1 a2 a3 a4 a5 a6 n2) 0 0 0).cell
      have hFW := row_over3 (row_over8 HRW6.out n6 a0 a1 a2 a3 a4 a5 a6 n2) n8 0 0 0
      unfold World.fill8 at hF6
      exact bodyPost_ret (v := .tuple #[.agg #[.bool a0, .bool a1, .bool a2, .bool a3, .bool a4, .bool a5, .bool a6, .int .i64 n2], .bool rb, .agg zeroT]) (by simp [results, Tryd.results16, go_sem, hF6, hF8, zeroT]) rfl ⟨by rw [show rdE N B (some v) ow = v2 from HV2.out.symm, HEN.out, HRB.out]; rfl, hFW, ((((((((((HC6.out.setCell (Or.inr HB.out.1) _ _).setCell (Or.inr HB.out.1) _ _).setCell (Or.inr HB.out.1) _ _).setCell (Or.inr HB.out.1) _ _).setCell (Or.inr HB.out.1) _ _).setCell (Or.inr HB.out.1) _ _).setCell (Or.inr HB.out.1) _ _).setCell (Or.inr HB.out.1) _ _).setCell (Or.inr HB.out.2) _ _).setCell (Or.inr HB.out.2) _ _).setCell (Or.inr HB.out.2) _ _⟩
end Go.Proofs.YtnkmelhggnelmaaDoor
