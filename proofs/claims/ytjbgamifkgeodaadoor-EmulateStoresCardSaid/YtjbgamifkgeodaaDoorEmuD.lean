/- emulate.Decode, and the reference's. -/
import Derived.Test.YtjbgamifkgeodaaDoorEmuR
import Derived.Test.YtjbgamifkgeodaaDoorMapE
import Derived.Test.YtjbgamifkgeodaaDoorChg
import Derived.Test.YtjbgamifkgeodaaDoorInsnD
import Derived.Test.YtjbgamifkgeodaaDoorInsnR4
import Derived.Carry
import Derived.BigRegion
import Derived.Deep.RegionHeld3
namespace Go.Proofs.YtjbgamifkgeodaaDoor
open Go Go.RowKit
set_option linter.unusedSimpArgs false
set_option linter.unusedVariables false
/-- The widths of operations. -/
def wdF : Int → Option Int := imUpd (imUpd (imUpd (imUpd (imUpd (imUpd (fun _ => none) 23 8) 24 4) 25 1) 26 8) 27 4) 28 1
theorem wdF_none {k : Int} (h : k < 23 ∨ 28 < k) : wdF k = none := by
  unfold wdF imUpd
  rw [if_neg (by omega), if_neg (by omega), if_neg (by omega), if_neg (by omega), if_neg (by omega), if_neg (by omega)]
theorem upd_le {w : World} {b s c : Nat} {f : Int → Option Int} (h : IMap Tryd.prog 3 3 w b s f) (hs : s ≤ c) (hc : c ≤ 100) {K V : Int} (wK : wf64 K) (wV : wf64 V) :
    ∃ w' s', (Instr.mapUpdate 49 (.map (some b)) (.int .i64 K) (.int .i64 V)).run Tryd.prog w = .ok () w' ∧ s' ≤ c + 1 ∧ IMap Tryd.prog 3 3 w' b s' (imUpd f K V) ∧ w.grownBy w' (some b) := by
  obtain ⟨w', r, m, g⟩ := h.update Tryd.underlying3 Tryd.underlying3 Tryd.underlying49 (by unfold maxLen; omega) (K := K) (V := V) wK wV
  exact ⟨w', _, r, by split <;> omega, m, g⟩
set_option maxRecDepth 100000 in
theorem widths_map (w : World) : Calls Tryd.prog 13 #[] w fun r w' => ∃ b s, r = .returned (.map (some b)) ∧ IMap Tryd.prog 3 3 w' b s wdF ∧ Grows w w' := by
  have hmm := @run_makeMap Tryd.prog
  obtain ⟨W0, hW0⟩ : ∃ W0, W0 = w.alloc (Obj.map #[] 0) := ⟨_, rfl⟩
  obtain ⟨b, hb⟩ : ∃ b, b = w.heap.size := ⟨_, rfl⟩
  have m0 : IMap Tryd.prog 3 3 W0 b 0 (fun _ => none) := by rw [hW0, hb]; exact IMap.made w _ _ _
  have g0 : Grows w W0 := by rw [hW0]; exact (Grows.refl _).alloc _
  obtain ⟨w1, s1, r1, l1, m1, h1⟩ := upd_le m0 (Nat.le_refl 0) (by omega) (K := 23) (V := 8) (by decide) (by decide)
  obtain ⟨w2, s2, r2, l2, m2, h2⟩ := upd_le m1 l1 (by omega) (K := 24) (V := 4) (by decide) (by decide)
  obtain ⟨w3, s3, r3, l3, m3, h3⟩ := upd_le m2 l2 (by omega) (K := 25) (V := 1) (by decide) (by decide)
  obtain ⟨w4, s4, r4, l4, m4, h4⟩ := upd_le m3 l3 (by omega) (K := 26) (V := 8) (by decide) (by decide)
  obtain ⟨w5, s5, r5, l5, m5, h5⟩ := upd_le m4 l4 (by omega) (K := 27) (V := 4) (by decide) (by decide)
  obtain ⟨w6, s6, r6, l6, m6, h6⟩ := upd_le m5 l5 (by omega) (K := 28) (V := 1) (by decide) (by decide)
  have hc : Chg [] w w6 := by
    have e : ∀ k, some b = some k → k ∈ ([] : List Nat) ∨ w.heap.size ≤ k := fun k hk => Or.inr (by injection hk with hk; omega)
    exact Chg.grownBy (Chg.grownBy (Chg.grownBy (Chg.grownBy (Chg.grownBy (Chg.grownBy (Chg.of_grows g0) h1 e) h2 e) h3 e) h4 e) h5 e) h6 e
  have HM := Lib.hid m6
  have HG := Lib.hid hc.nil_grows
  clear m0 m1 m2 m3 m4 m5 m6 h1 h2 h3 h4 h5 h6 hc g0
  go_enter Tryd.func13, Tryd.ntmps13
  rw [hW0, hb] at r1
  rw [hb] at r2 r3 r4 r5 r6
  go_wp2_with fail
  go_ret
  exact ⟨b, _, by rw [hb]; rfl, HM.out, HG.out⟩
/-- Sixteen registers, told by a function. -/
def RegN (R : Array Value) (f : Nat → Nat) : Prop := R.size = 18 ∧ ∀ i, i < 16 → f i < 18446744073709551616 ∧ R[i]? = some (.int .u64 (f i : Nat))
def rvF (f : Nat → Nat) (j : Nat) : Nat := if j = 0 then 0 else f j
theorem zero_int' (w : World) : (zeroValue 3).run Tryd.prog w = .ok (.int .i64 0) w := by
  have h : ∀ w, (zeroValue 3).run Tryd.prog w = .ok (.int .i64 0) w := fun w => by kernel_rfl
  exact h w
section
variable {R : Array Value} {x op rd r1 r2 v Z : Int} (hd : ∀ w, Calls Tryd.prog 12 #[.int .u32 x] w fun r w' => r = .returned (.tuple #[.agg #[.int .i64 op, .int .i64 rd, .int .i64 r1, .int .i64 r2, .int .i64 v], .int .i64 Z]) ∧ Grows w w')
include hd
set_option maxRecDepth 100000 in
set_option maxHeartbeats 2000000 in
theorem edec_no (wop : wf64 op) (h : Z ≠ 0 ∨ wdF op = none) (w : World) :
    Calls Tryd.prog 5 #[.int .u32 x, .agg R] w fun r w' => r = .returned (.tuple #[.agg #[.bool false, .int .i64 0, .int .i64 0, .int .u64 0], .int .i64 10]) ∧ Grows w w' := by
  by_cases hZ : Z = 0
  · subst hZ
    have hw : wdF op = none := by rcases h with h | h; exact absurd rfl h; exact h
    have HWA : Hid ((wdF op).getD 0 = 0) := Lib.hid (by rw [hw]; rfl)
    have HWB : Hid ((wdF op).isSome = false) := Lib.hid (by rw [hw]; rfl)
    clear h hw
    go_enter Tryd.func5, Tryd.ntmps5
    go_wp2_with fail
    obtain ⟨W, hW⟩ : ∃ W, W = (w.alloc (Obj.cells R 26)).alloc (Obj.cells #[.bool false, .int .i64 0, .int .i64 0, .int .u64 0] 28) := ⟨_, rfl⟩
    obtain ⟨b3, hb3⟩ : ∃ b, b = w.heap.size := ⟨_, rfl⟩
    obtain ⟨b4, hb4⟩ : ∃ b, b = w.heap.size + 1 := ⟨_, rfl⟩
    rw [← hW, ← hb4, ← hb3]
    have hG0 : Grows w W := by rw [hW]; exact ((Grows.refl _).alloc _).alloc _
    have hR0 : Row W b3 R 26 := by rw [hW]; exact (Row.new_at _ _ _ hb3).grows ((Grows.refl _).alloc _)
    have hA0 : Row W b4 #[.bool false, .int .i64 0, .int .i64 0, .int .u64 0] 28 := by rw [hW]; exact Row.new_at _ _ _ (by rw [hb4]; simp)
    have hn34 : b3 ≠ b4 ∧ w.heap.size ≤ b3 ∧ w.heap.size ≤ b4 := by omega
    clear hW hb3 hb4
    refine (hd W).mono ?_
    rintro _ w1 ⟨rfl, hg1⟩
    go_wp2_with fail
    obtain ⟨W2, hW2⟩ : ∃ W2, W2 = w1.alloc (Obj.cells #[.int .i64 op, .int .i64 rd, .int .i64 r1, .int .i64 r2, .int .i64 v] 41) := ⟨_, rfl⟩
    obtain ⟨b6, hb6⟩ : ∃ b, b = w1.heap.size := ⟨_, rfl⟩
    rw [← hW2, ← hb6]
    have hg2 : Grows w1 W2 := by rw [hW2]; exact (Grows.refl _).alloc _
    have hI2 : Row W2 b6 #[.int .i64 op, .int .i64 rd, .int .i64 r1, .int .i64 r2, .int .i64 v] 41 := by rw [hW2]; exact Row.new_at _ _ _ hb6
    have HN := Lib.hid (show (b3 ≠ b4 ∧ w.heap.size ≤ b3 ∧ w.heap.size ≤ b4) ∧ b6 ≠ b3 ∧ b6 ≠ b4 ∧ w.heap.size ≤ b6 by
      have h1 := (hR0.grows hg1).lt
      have h2 := (hA0.grows hg1).lt
      omega)
    have HG2 := Lib.hid ((hG0.trans hg1).trans hg2)
    have HR2 := Lib.hid ((hR0.grows hg1).grows hg2)
    have HA2 := Lib.hid ((hA0.grows hg1).grows hg2)
    have HI2 := Lib.hid hI2
    clear hW2 hb6 hG0 hR0 hA0 hn34 hg1 hg2 hI2
    go_region_held3 (fun w' => w'.cell? ⟨b6, 0, none⟩ = some (.int .i64 op)) (first
      | exact HI3.out.cell 0
      | exact (HI2.out.grows ((Grows.refl _).drew)).cell 0)
      (first
      | (go_at_call 13; refine (widths_map _).mono ?_; rintro _ w3 ⟨bw, sw, rfl, hM3, hg3⟩
         have hlk := (hM3.look_ok Tryd.underlying3 Tryd.underlying3 Tryd.underlying49 (zero_int' w3) wop).1
         rw [HWA.out, HWB.out] at hlk
         have HI3 := Lib.hid ((HI2.out.grows ((Grows.refl _).drew)).grows hg3)
         have HR3 := Lib.hid ((HR2.out.grows ((Grows.refl _).drew)).grows hg3)
         have HA3 := Lib.hid ((HA2.out.grows ((Grows.refl _).drew)).grows hg3)
         have HG3 := Lib.hid ((HG2.out.drew).trans hg3)
         clear hM3 hg3))
    clear hlk HI2 HR2 HA2 HG2
    have z0 : World.cell? w3 ⟨b4, 0, none⟩ = some (.bool false) := (HA3).out.cell 0
    have z1 : World.cell? w3 ⟨b4, 1, none⟩ = some (.int .i64 0) := (HA3).out.cell 1
    have z2 : World.cell? w3 ⟨b4, 2, none⟩ = some (.int .i64 0) := (HA3).out.cell 2
    have z3 : World.cell? w3 ⟨b4, 3, none⟩ = some (.int .u64 0) := (HA3).out.cell 3
    have y0 := (HA3).out.frozen 0
    have y1 := (HA3).out.frozen 1
    have y2 := (HA3).out.frozen 2
    have y3 := (HA3).out.frozen 3
    have ly := (HA3).out.lt
    go_wp2_with fail
    have hF := (Row.set (Row.set (Row.set (Row.set (HA3).out 0 (.bool false)) 1 (.int .i64 0)) 2 (.int .i64 0)) 3 (.int .u64 0)).cell
    have hGF := ((((HG3).out.setCell (p := ⟨b4, 0, none⟩) HN.out.1.2.2 (.bool false)).setCell (p := ⟨b4, 1, none⟩) HN.out.1.2.2 (.int .i64 0)).setCell (p := ⟨b4, 2, none⟩) HN.out.1.2.2 (.int .i64 0)).setCell (p := ⟨b4, 3, none⟩) HN.out.1.2.2 (.int .u64 0)
    exact bodyPost_ret (v := .tuple #[.agg #[.bool false, .int .i64 0, .int .i64 0, .int .u64 0], .int .i64 10]) (by simp [results, Tryd.results5, go_sem, hF]) rfl ⟨rfl, hGF⟩
  · have hZb : (Z != 0) = true := by simp; exact hZ
    obtain ⟨wa, hwa⟩ : ∃ wa, (wdF op).getD 0 = wa := ⟨_, rfl⟩
    obtain ⟨wb, hwb⟩ : ∃ wb, (wdF op).isSome = wb := ⟨_, rfl⟩
    have HWA := Lib.hid hwa
    have HWB := Lib.hid hwb
    clear h hwa hwb hZ
    go_enter Tryd.func5, Tryd.ntmps5
    go_wp2_with fail
    obtain ⟨W, hW⟩ : ∃ W, W = (w.alloc (Obj.cells R 26)).alloc (Obj.cells #[.bool false, .int .i64 0, .int .i64 0, .int .u64 0] 28) := ⟨_, rfl⟩
    obtain ⟨b3, hb3⟩ : ∃ b, b = w.heap.size := ⟨_, rfl⟩
    obtain ⟨b4, hb4⟩ : ∃ b, b = w.heap.size + 1 := ⟨_, rfl⟩
    rw [← hW, ← hb4, ← hb3]
    have hG0 : Grows w W := by rw [hW]; exact ((Grows.refl _).alloc _).alloc _
    have hR0 : Row W b3 R 26 := by rw [hW]; exact (Row.new_at _ _ _ hb3).grows ((Grows.refl _).alloc _)
    have hA0 : Row W b4 #[.bool false, .int .i64 0, .int .i64 0, .int .u64 0] 28 := by rw [hW]; exact Row.new_at _ _ _ (by rw [hb4]; simp)
    have hn34 : b3 ≠ b4 ∧ w.heap.size ≤ b3 ∧ w.heap.size ≤ b4 := by omega
    clear hW hb3 hb4
    refine (hd W).mono ?_
    rintro _ w1 ⟨rfl, hg1⟩
    go_wp2_with fail
    obtain ⟨W2, hW2⟩ : ∃ W2, W2 = w1.alloc (Obj.cells #[.int .i64 op, .int .i64 rd, .int .i64 r1, .int .i64 r2, .int .i64 v] 41) := ⟨_, rfl⟩
    obtain ⟨b6, hb6⟩ : ∃ b, b = w1.heap.size := ⟨_, rfl⟩
    rw [← hW2, ← hb6]
    have hg2 : Grows w1 W2 := by rw [hW2]; exact (Grows.refl _).alloc _
    have hI2 : Row W2 b6 #[.int .i64 op, .int .i64 rd, .int .i64 r1, .int .i64 r2, .int .i64 v] 41 := by rw [hW2]; exact Row.new_at _ _ _ hb6
    have HN := Lib.hid (show (b3 ≠ b4 ∧ w.heap.size ≤ b3 ∧ w.heap.size ≤ b4) ∧ b6 ≠ b3 ∧ b6 ≠ b4 ∧ w.heap.size ≤ b6 by
      have h1 := (hR0.grows hg1).lt
      have h2 := (hA0.grows hg1).lt
      omega)
    have HG2 := Lib.hid ((hG0.trans hg1).trans hg2)
    have HR2 := Lib.hid ((hR0.grows hg1).grows hg2)
    have HA2 := Lib.hid ((hA0.grows hg1).grows hg2)
    have HI2 := Lib.hid hI2
    clear hW2 hb6 hG0 hR0 hA0 hn34 hg1 hg2 hI2
    go_region_held3 (fun w' => w'.cell? ⟨b6, 0, none⟩ = some (.int .i64 op)) (first
      | exact HI3.out.cell 0
      | exact (HI2.out.grows ((Grows.refl _).drew)).cell 0)
      (first
      | (go_at_call 13; refine (widths_map _).mono ?_; rintro _ w3 ⟨bw, sw, rfl, hM3, hg3⟩
         have hlk := (hM3.look_ok Tryd.underlying3 Tryd.underlying3 Tryd.underlying49 (zero_int' w3) wop).1
         rw [HWA.out, HWB.out] at hlk
         have HI3 := Lib.hid ((HI2.out.grows ((Grows.refl _).drew)).grows hg3)
         have HR3 := Lib.hid ((HR2.out.grows ((Grows.refl _).drew)).grows hg3)
         have HA3 := Lib.hid ((HA2.out.grows ((Grows.refl _).drew)).grows hg3)
         have HG3 := Lib.hid ((HG2.out.drew).trans hg3)
         clear hM3 hg3))
    clear hlk HI2 HR2 HA2 HG2
    have z0 : World.cell? w3 ⟨b4, 0, none⟩ = some (.bool false) := (HA3).out.cell 0
    have z1 : World.cell? w3 ⟨b4, 1, none⟩ = some (.int .i64 0) := (HA3).out.cell 1
    have z2 : World.cell? w3 ⟨b4, 2, none⟩ = some (.int .i64 0) := (HA3).out.cell 2
    have z3 : World.cell? w3 ⟨b4, 3, none⟩ = some (.int .u64 0) := (HA3).out.cell 3
    have y0 := (HA3).out.frozen 0
    have y1 := (HA3).out.frozen 1
    have y2 := (HA3).out.frozen 2
    have y3 := (HA3).out.frozen 3
    have ly := (HA3).out.lt
    go_wp2_with fail
    have hF := (Row.set (Row.set (Row.set (Row.set (HA3).out 0 (.bool false)) 1 (.int .i64 0)) 2 (.int .i64 0)) 3 (.int .u64 0)).cell
    have hGF := ((((HG3).out.setCell (p := ⟨b4, 0, none⟩) HN.out.1.2.2 (.bool false)).setCell (p := ⟨b4, 1, none⟩) HN.out.1.2.2 (.int .i64 0)).setCell (p := ⟨b4, 2, none⟩) HN.out.1.2.2 (.int .i64 0)).setCell (p := ⟨b4, 3, none⟩) HN.out.1.2.2 (.int .u64 0)
    exact bodyPost_ret (v := .tuple #[.agg #[.bool false, .int .i64 0, .int .i64 0, .int .u64 0], .int .i64 10]) (by simp [results, Tryd.results5, go_sem, hF]) rfl ⟨rfl, hGF⟩
set_option maxRecDepth 100000 in
set_option maxHeartbeats 2000000 in
theorem edec_23 (hop : op = 23) (hZ : Z = 0) (w : World) :
    Calls Tryd.prog 5 #[.int .u32 x, .agg R] w fun r w' => r = .returned (.tuple #[.agg #[.bool false, .int .i64 8, .int .i64 rd, .int .u64 0], .int .i64 0]) ∧ Grows w w' := by
  subst hop hZ
  have HWA : Hid ((wdF 23).getD 0 = 8) := Lib.hid (by decide)
  have HWB : Hid ((wdF 23).isSome = true) := Lib.hid (by decide)
  have wop : wf64 23 := by decide
  go_enter Tryd.func5, Tryd.ntmps5
  go_wp2_with fail
  obtain ⟨W, hW⟩ : ∃ W, W = (w.alloc (Obj.cells R 26)).alloc (Obj.cells #[.bool false, .int .i64 0, .int .i64 0, .int .u64 0] 28) := ⟨_, rfl⟩
  obtain ⟨b3, hb3⟩ : ∃ b, b = w.heap.size := ⟨_, rfl⟩
  obtain ⟨b4, hb4⟩ : ∃ b, b = w.heap.size + 1 := ⟨_, rfl⟩
  rw [← hW, ← hb4, ← hb3]
  have hG0 : Grows w W := by rw [hW]; exact ((Grows.refl _).alloc _).alloc _
  have hR0 : Row W b3 R 26 := by rw [hW]; exact (Row.new_at _ _ _ hb3).grows ((Grows.refl _).alloc _)
  have hA0 : Row W b4 #[.bool false, .int .i64 0, .int .i64 0, .int .u64 0] 28 := by rw [hW]; exact Row.new_at _ _ _ (by rw [hb4]; simp)
  have hn34 : b3 ≠ b4 ∧ w.heap.size ≤ b3 ∧ w.heap.size ≤ b4 := by omega
  clear hW hb3 hb4
  refine (hd W).mono ?_
  rintro _ w1 ⟨rfl, hg1⟩
  go_wp2_with fail
  obtain ⟨W2, hW2⟩ : ∃ W2, W2 = w1.alloc (Obj.cells #[.int .i64 23, .int .i64 rd, .int .i64 r1, .int .i64 r2, .int .i64 v] 41) := ⟨_, rfl⟩
  obtain ⟨b6, hb6⟩ : ∃ b, b = w1.heap.size := ⟨_, rfl⟩
  rw [← hW2, ← hb6]
  have hg2 : Grows w1 W2 := by rw [hW2]; exact (Grows.refl _).alloc _
  have hI2 : Row W2 b6 #[.int .i64 23, .int .i64 rd, .int .i64 r1, .int .i64 r2, .int .i64 v] 41 := by rw [hW2]; exact Row.new_at _ _ _ hb6
  have HN := Lib.hid (show (b3 ≠ b4 ∧ w.heap.size ≤ b3 ∧ w.heap.size ≤ b4) ∧ b6 ≠ b3 ∧ b6 ≠ b4 ∧ w.heap.size ≤ b6 by
    have h1 := (hR0.grows hg1).lt
    have h2 := (hA0.grows hg1).lt
    omega)
  have HG2 := Lib.hid ((hG0.trans hg1).trans hg2)
  have HR2 := Lib.hid ((hR0.grows hg1).grows hg2)
  have HA2 := Lib.hid ((hA0.grows hg1).grows hg2)
  have HI2 := Lib.hid hI2
  clear hW2 hb6 hG0 hR0 hA0 hn34 hg1 hg2 hI2
  go_region_held3 (fun w' => w'.cell? ⟨b6, 0, none⟩ = some (.int .i64 23)) (first
    | exact HI3.out.cell 0
    | exact (HI2.out.grows ((Grows.refl _).drew)).cell 0)
    (first
    | (go_at_call 13; refine (widths_map _).mono ?_; rintro _ w3 ⟨bw, sw, rfl, hM3, hg3⟩
       have hlk := (hM3.look_ok Tryd.underlying3 Tryd.underlying3 Tryd.underlying49 (zero_int' w3) wop).1
       rw [HWA.out, HWB.out] at hlk
       have HI3 := Lib.hid ((HI2.out.grows ((Grows.refl _).drew)).grows hg3)
       have HR3 := Lib.hid ((HR2.out.grows ((Grows.refl _).drew)).grows hg3)
       have HA3 := Lib.hid ((HA2.out.grows ((Grows.refl _).drew)).grows hg3)
       have HG3 := Lib.hid ((HG2.out.drew).trans hg3)
       clear hM3 hg3))
  clear hlk HI2 HR2 HA2 HG2
  have z0 : World.cell? w3 ⟨b4, 0, none⟩ = some (.bool false) := (HA3).out.cell 0
  have z1 : World.cell? w3 ⟨b4, 1, none⟩ = some (.int .i64 0) := (HA3).out.cell 1
  have z2 : World.cell? w3 ⟨b4, 2, none⟩ = some (.int .i64 0) := (HA3).out.cell 2
  have z3 : World.cell? w3 ⟨b4, 3, none⟩ = some (.int .u64 0) := (HA3).out.cell 3
  have y0 := (HA3).out.frozen 0
  have y1 := (HA3).out.frozen 1
  have y2 := (HA3).out.frozen 2
  have y3 := (HA3).out.frozen 3
  have ly := (HA3).out.lt
  have i0 : w3.cell? ⟨b6, 0, none⟩ = some (.int .i64 23) := HI3.out.cell 0
  have i1 : w3.cell? ⟨b6, 1, none⟩ = some (.int .i64 rd) := HI3.out.cell 1
  have li := HI3.out.lt
  go_wp2_with fail
  have hF := ((Row.set (Row.set (Row.set (Row.set HA3.out 0 (.bool false)) 1 (.int .i64 8)) 2 (.int .i64 rd)) 3 (.int .u64 0)).grows ((Grows.refl _).alloc (Obj.cells #[.bool false, .int .i64 8, .int .i64 rd, .int .u64 0] 28))).cell
  have hGF := ((((HG3.out.setCell (p := ⟨b4, 0, none⟩) HN.out.1.2.2 (.bool false)).setCell (p := ⟨b4, 1, none⟩) HN.out.1.2.2 (.int .i64 8)).setCell (p := ⟨b4, 2, none⟩) HN.out.1.2.2 (.int .i64 rd)).setCell (p := ⟨b4, 3, none⟩) HN.out.1.2.2 (.int .u64 0)).alloc (Obj.cells #[.bool false, .int .i64 8, .int .i64 rd, .int .u64 0] 28)
  exact bodyPost_ret (v := .tuple #[.agg #[.bool false, .int .i64 8, .int .i64 rd, .int .u64 0], .int .i64 0]) (by simp [results, Tryd.results5, go_sem, hF]) rfl ⟨rfl, hGF⟩
set_option maxRecDepth 100000 in
set_option maxHeartbeats 2000000 in
theorem edec_24 (hop : op = 24) (hZ : Z = 0) (w : World) :
    Calls Tryd.prog 5 #[.int .u32 x, .agg R] w fun r w' => r = .returned (.tuple #[.agg #[.bool false, .int .i64 4, .int .i64 rd, .int .u64 0], .int .i64 0]) ∧ Grows w w' := by
  subst hop hZ
  have HWA : Hid ((wdF 24).getD 0 = 4) := Lib.hid (by decide)
  have HWB : Hid ((wdF 24).isSome = true) := Lib.hid (by decide)
  have wop : wf64 24 := by decide
  go_enter Tryd.func5, Tryd.ntmps5
  go_wp2_with fail
  obtain ⟨W, hW⟩ : ∃ W, W = (w.alloc (Obj.cells R 26)).alloc (Obj.cells #[.bool false, .int .i64 0, .int .i64 0, .int .u64 0] 28) := ⟨_, rfl⟩
  obtain ⟨b3, hb3⟩ : ∃ b, b = w.heap.size := ⟨_, rfl⟩
  obtain ⟨b4, hb4⟩ : ∃ b, b = w.heap.size + 1 := ⟨_, rfl⟩
  rw [← hW, ← hb4, ← hb3]
  have hG0 : Grows w W := by rw [hW]; exact ((Grows.refl _).alloc _).alloc _
  have hR0 : Row W b3 R 26 := by rw [hW]; exact (Row.new_at _ _ _ hb3).grows ((Grows.refl _).alloc _)
  have hA0 : Row W b4 #[.bool false, .int .i64 0, .int .i64 0, .int .u64 0] 28 := by rw [hW]; exact Row.new_at _ _ _ (by rw [hb4]; simp)
  have hn34 : b3 ≠ b4 ∧ w.heap.size ≤ b3 ∧ w.heap.size ≤ b4 := by omega
  clear hW hb3 hb4
  refine (hd W).mono ?_
  rintro _ w1 ⟨rfl, hg1⟩
  go_wp2_with fail
  obtain ⟨W2, hW2⟩ : ∃ W2, W2 = w1.alloc (Obj.cells #[.int .i64 24, .int .i64 rd, .int .i64 r1, .int .i64 r2, .int .i64 v] 41) := ⟨_, rfl⟩
  obtain ⟨b6, hb6⟩ : ∃ b, b = w1.heap.size := ⟨_, rfl⟩
  rw [← hW2, ← hb6]
  have hg2 : Grows w1 W2 := by rw [hW2]; exact (Grows.refl _).alloc _
  have hI2 : Row W2 b6 #[.int .i64 24, .int .i64 rd, .int .i64 r1, .int .i64 r2, .int .i64 v] 41 := by rw [hW2]; exact Row.new_at _ _ _ hb6
  have HN := Lib.hid (show (b3 ≠ b4 ∧ w.heap.size ≤ b3 ∧ w.heap.size ≤ b4) ∧ b6 ≠ b3 ∧ b6 ≠ b4 ∧ w.heap.size ≤ b6 by
    have h1 := (hR0.grows hg1).lt
    have h2 := (hA0.grows hg1).lt
    omega)
  have HG2 := Lib.hid ((hG0.trans hg1).trans hg2)
  have HR2 := Lib.hid ((hR0.grows hg1).grows hg2)
  have HA2 := Lib.hid ((hA0.grows hg1).grows hg2)
  have HI2 := Lib.hid hI2
  clear hW2 hb6 hG0 hR0 hA0 hn34 hg1 hg2 hI2
  go_region_held3 (fun w' => w'.cell? ⟨b6, 0, none⟩ = some (.int .i64 24)) (first
    | exact HI3.out.cell 0
    | exact (HI2.out.grows ((Grows.refl _).drew)).cell 0)
    (first
    | (go_at_call 13; refine (widths_map _).mono ?_; rintro _ w3 ⟨bw, sw, rfl, hM3, hg3⟩
       have hlk := (hM3.look_ok Tryd.underlying3 Tryd.underlying3 Tryd.underlying49 (zero_int' w3) wop).1
       rw [HWA.out, HWB.out] at hlk
       have HI3 := Lib.hid ((HI2.out.grows ((Grows.refl _).drew)).grows hg3)
       have HR3 := Lib.hid ((HR2.out.grows ((Grows.refl _).drew)).grows hg3)
       have HA3 := Lib.hid ((HA2.out.grows ((Grows.refl _).drew)).grows hg3)
       have HG3 := Lib.hid ((HG2.out.drew).trans hg3)
       clear hM3 hg3))
  clear hlk HI2 HR2 HA2 HG2
  have z0 : World.cell? w3 ⟨b4, 0, none⟩ = some (.bool false) := (HA3).out.cell 0
  have z1 : World.cell? w3 ⟨b4, 1, none⟩ = some (.int .i64 0) := (HA3).out.cell 1
  have z2 : World.cell? w3 ⟨b4, 2, none⟩ = some (.int .i64 0) := (HA3).out.cell 2
  have z3 : World.cell? w3 ⟨b4, 3, none⟩ = some (.int .u64 0) := (HA3).out.cell 3
  have y0 := (HA3).out.frozen 0
  have y1 := (HA3).out.frozen 1
  have y2 := (HA3).out.frozen 2
  have y3 := (HA3).out.frozen 3
  have ly := (HA3).out.lt
  have i0 : w3.cell? ⟨b6, 0, none⟩ = some (.int .i64 24) := HI3.out.cell 0
  have i1 : w3.cell? ⟨b6, 1, none⟩ = some (.int .i64 rd) := HI3.out.cell 1
  have li := HI3.out.lt
  go_wp2_with fail
  have hF := ((Row.set (Row.set (Row.set (Row.set HA3.out 0 (.bool false)) 1 (.int .i64 4)) 2 (.int .i64 rd)) 3 (.int .u64 0)).grows ((Grows.refl _).alloc (Obj.cells #[.bool false, .int .i64 4, .int .i64 rd, .int .u64 0] 28))).cell
  have hGF := ((((HG3.out.setCell (p := ⟨b4, 0, none⟩) HN.out.1.2.2 (.bool false)).setCell (p := ⟨b4, 1, none⟩) HN.out.1.2.2 (.int .i64 4)).setCell (p := ⟨b4, 2, none⟩) HN.out.1.2.2 (.int .i64 rd)).setCell (p := ⟨b4, 3, none⟩) HN.out.1.2.2 (.int .u64 0)).alloc (Obj.cells #[.bool false, .int .i64 4, .int .i64 rd, .int .u64 0] 28)
  exact bodyPost_ret (v := .tuple #[.agg #[.bool false, .int .i64 4, .int .i64 rd, .int .u64 0], .int .i64 0]) (by simp [results, Tryd.results5, go_sem, hF]) rfl ⟨rfl, hGF⟩
set_option maxRecDepth 100000 in
set_option maxHeartbeats 2000000 in
theorem edec_25 (hop : op = 25) (hZ : Z = 0) (w : World) :
    Calls Tryd.prog 5 #[.int .u32 x, .agg R] w fun r w' => r = .returned (.tuple #[.agg #[.bool false, .int .i64 1, .int .i64 rd, .int .u64 0], .int .i64 0]) ∧ Grows w w' := by
  subst hop hZ
  have HWA : Hid ((wdF 25).getD 0 = 1) := Lib.hid (by decide)
  have HWB : Hid ((wdF 25).isSome = true) := Lib.hid (by decide)
  have wop : wf64 25 := by decide
  go_enter Tryd.func5, Tryd.ntmps5
  go_wp2_with fail
  obtain ⟨W, hW⟩ : ∃ W, W = (w.alloc (Obj.cells R 26)).alloc (Obj.cells #[.bool false, .int .i64 0, .int .i64 0, .int .u64 0] 28) := ⟨_, rfl⟩
  obtain ⟨b3, hb3⟩ : ∃ b, b = w.heap.size := ⟨_, rfl⟩
  obtain ⟨b4, hb4⟩ : ∃ b, b = w.heap.size + 1 := ⟨_, rfl⟩
  rw [← hW, ← hb4, ← hb3]
  have hG0 : Grows w W := by rw [hW]; exact ((Grows.refl _).alloc _).alloc _
  have hR0 : Row W b3 R 26 := by rw [hW]; exact (Row.new_at _ _ _ hb3).grows ((Grows.refl _).alloc _)
  have hA0 : Row W b4 #[.bool false, .int .i64 0, .int .i64 0, .int .u64 0] 28 := by rw [hW]; exact Row.new_at _ _ _ (by rw [hb4]; simp)
  have hn34 : b3 ≠ b4 ∧ w.heap.size ≤ b3 ∧ w.heap.size ≤ b4 := by omega
  clear hW hb3 hb4
  refine (hd W).mono ?_
  rintro _ w1 ⟨rfl, hg1⟩
  go_wp2_with fail
  obtain ⟨W2, hW2⟩ : ∃ W2, W2 = w1.alloc (Obj.cells #[.int .i64 25, .int .i64 rd, .int .i64 r1, .int .i64 r2, .int .i64 v] 41) := ⟨_, rfl⟩
  obtain ⟨b6, hb6⟩ : ∃ b, b = w1.heap.size := ⟨_, rfl⟩
  rw [← hW2, ← hb6]
  have hg2 : Grows w1 W2 := by rw [hW2]; exact (Grows.refl _).alloc _
  have hI2 : Row W2 b6 #[.int .i64 25, .int .i64 rd, .int .i64 r1, .int .i64 r2, .int .i64 v] 41 := by rw [hW2]; exact Row.new_at _ _ _ hb6
  have HN := Lib.hid (show (b3 ≠ b4 ∧ w.heap.size ≤ b3 ∧ w.heap.size ≤ b4) ∧ b6 ≠ b3 ∧ b6 ≠ b4 ∧ w.heap.size ≤ b6 by
    have h1 := (hR0.grows hg1).lt
    have h2 := (hA0.grows hg1).lt
    omega)
  have HG2 := Lib.hid ((hG0.trans hg1).trans hg2)
  have HR2 := Lib.hid ((hR0.grows hg1).grows hg2)
  have HA2 := Lib.hid ((hA0.grows hg1).grows hg2)
  have HI2 := Lib.hid hI2
  clear hW2 hb6 hG0 hR0 hA0 hn34 hg1 hg2 hI2
  go_region_held3 (fun w' => w'.cell? ⟨b6, 0, none⟩ = some (.int .i64 25)) (first
    | exact HI3.out.cell 0
    | exact (HI2.out.grows ((Grows.refl _).drew)).cell 0)
    (first
    | (go_at_call 13; refine (widths_map _).mono ?_; rintro _ w3 ⟨bw, sw, rfl, hM3, hg3⟩
       have hlk := (hM3.look_ok Tryd.underlying3 Tryd.underlying3 Tryd.underlying49 (zero_int' w3) wop).1
       rw [HWA.out, HWB.out] at hlk
       have HI3 := Lib.hid ((HI2.out.grows ((Grows.refl _).drew)).grows hg3)
       have HR3 := Lib.hid ((HR2.out.grows ((Grows.refl _).drew)).grows hg3)
       have HA3 := Lib.hid ((HA2.out.grows ((Grows.refl _).drew)).grows hg3)
       have HG3 := Lib.hid ((HG2.out.drew).trans hg3)
       clear hM3 hg3))
  clear hlk HI2 HR2 HA2 HG2
  have z0 : World.cell? w3 ⟨b4, 0, none⟩ = some (.bool false) := (HA3).out.cell 0
  have z1 : World.cell? w3 ⟨b4, 1, none⟩ = some (.int .i64 0) := (HA3).out.cell 1
  have z2 : World.cell? w3 ⟨b4, 2, none⟩ = some (.int .i64 0) := (HA3).out.cell 2
  have z3 : World.cell? w3 ⟨b4, 3, none⟩ = some (.int .u64 0) := (HA3).out.cell 3
  have y0 := (HA3).out.frozen 0
  have y1 := (HA3).out.frozen 1
  have y2 := (HA3).out.frozen 2
  have y3 := (HA3).out.frozen 3
  have ly := (HA3).out.lt
  have i0 : w3.cell? ⟨b6, 0, none⟩ = some (.int .i64 25) := HI3.out.cell 0
  have i1 : w3.cell? ⟨b6, 1, none⟩ = some (.int .i64 rd) := HI3.out.cell 1
  have li := HI3.out.lt
  go_wp2_with fail
  have hF := ((Row.set (Row.set (Row.set (Row.set HA3.out 0 (.bool false)) 1 (.int .i64 1)) 2 (.int .i64 rd)) 3 (.int .u64 0)).grows ((Grows.refl _).alloc (Obj.cells #[.bool false, .int .i64 1, .int .i64 rd, .int .u64 0] 28))).cell
  have hGF := ((((HG3.out.setCell (p := ⟨b4, 0, none⟩) HN.out.1.2.2 (.bool false)).setCell (p := ⟨b4, 1, none⟩) HN.out.1.2.2 (.int .i64 1)).setCell (p := ⟨b4, 2, none⟩) HN.out.1.2.2 (.int .i64 rd)).setCell (p := ⟨b4, 3, none⟩) HN.out.1.2.2 (.int .u64 0)).alloc (Obj.cells #[.bool false, .int .i64 1, .int .i64 rd, .int .u64 0] 28)
  exact bodyPost_ret (v := .tuple #[.agg #[.bool false, .int .i64 1, .int .i64 rd, .int .u64 0], .int .i64 0]) (by simp [results, Tryd.results5, go_sem, hF]) rfl ⟨rfl, hGF⟩
set_option maxRecDepth 100000 in
set_option maxHeartbeats 2000000 in
theorem edec_26 {f : Nat → Nat} (hR : RegN R f) {j : Nat} (hj : r2 = j) (hj16 : j < 16) (hop : op = 26) (hZ : Z = 0) (w : World) :
    Calls Tryd.prog 5 #[.int .u32 x, .agg R] w fun r w' => r = .returned (.tuple #[.agg #[.bool true, .int .i64 8, .int .i64 (j : Int), .int .u64 (rvF f j % 18446744073709551616 : Nat)], .int .i64 0]) ∧ Grows w w' := by
  have HJ := Lib.hid hj
  clear hj
  subst hop hZ
  have HWA : Hid ((wdF 26).getD 0 = 8) := Lib.hid (by decide)
  have HWB : Hid ((wdF 26).isSome = true) := Lib.hid (by decide)
  have wop : wf64 26 := by decide
  go_enter Tryd.func5, Tryd.ntmps5
  go_wp2_with fail
  obtain ⟨W, hW⟩ : ∃ W, W = (w.alloc (Obj.cells R 26)).alloc (Obj.cells #[.bool false, .int .i64 0, .int .i64 0, .int .u64 0] 28) := ⟨_, rfl⟩
  obtain ⟨b3, hb3⟩ : ∃ b, b = w.heap.size := ⟨_, rfl⟩
  obtain ⟨b4, hb4⟩ : ∃ b, b = w.heap.size + 1 := ⟨_, rfl⟩
  rw [← hW, ← hb4, ← hb3]
  have hG0 : Grows w W := by rw [hW]; exact ((Grows.refl _).alloc _).alloc _
  have hR0 : Row W b3 R 26 := by rw [hW]; exact (Row.new_at _ _ _ hb3).grows ((Grows.refl _).alloc _)
  have hA0 : Row W b4 #[.bool false, .int .i64 0, .int .i64 0, .int .u64 0] 28 := by rw [hW]; exact Row.new_at _ _ _ (by rw [hb4]; simp)
  have hn34 : b3 ≠ b4 ∧ w.heap.size ≤ b3 ∧ w.heap.size ≤ b4 := by omega
  clear hW hb3 hb4
  refine (hd W).mono ?_
  rintro _ w1 ⟨rfl, hg1⟩
  go_wp2_with fail
  obtain ⟨W2, hW2⟩ : ∃ W2, W2 = w1.alloc (Obj.cells #[.int .i64 26, .int .i64 rd, .int .i64 r1, .int .i64 r2, .int .i64 v] 41) := ⟨_, rfl⟩
  obtain ⟨b6, hb6⟩ : ∃ b, b = w1.heap.size := ⟨_, rfl⟩
  rw [← hW2, ← hb6]
  have hg2 : Grows w1 W2 := by rw [hW2]; exact (Grows.refl _).alloc _
  have hI2 : Row W2 b6 #[.int .i64 26, .int .i64 rd, .int .i64 r1, .int .i64 r2, .int .i64 v] 41 := by rw [hW2]; exact Row.new_at _ _ _ hb6
  have HN := Lib.hid (show (b3 ≠ b4 ∧ w.heap.size ≤ b3 ∧ w.heap.size ≤ b4) ∧ b6 ≠ b3 ∧ b6 ≠ b4 ∧ w.heap.size ≤ b6 by
    have h1 := (hR0.grows hg1).lt
    have h2 := (hA0.grows hg1).lt
    omega)
  have HG2 := Lib.hid ((hG0.trans hg1).trans hg2)
  have HR2 := Lib.hid ((hR0.grows hg1).grows hg2)
  have HA2 := Lib.hid ((hA0.grows hg1).grows hg2)
  have HI2 := Lib.hid hI2
  clear hW2 hb6 hG0 hR0 hA0 hn34 hg1 hg2 hI2
  go_region_held3 (fun w' => w'.cell? ⟨b6, 0, none⟩ = some (.int .i64 26)) (first
    | exact HI3.out.cell 0
    | exact (HI2.out.grows ((Grows.refl _).drew)).cell 0)
    (first
    | (go_at_call 13; refine (widths_map _).mono ?_; rintro _ w3 ⟨bw, sw, rfl, hM3, hg3⟩
       have hlk := (hM3.look_ok Tryd.underlying3 Tryd.underlying3 Tryd.underlying49 (zero_int' w3) wop).1
       rw [HWA.out, HWB.out] at hlk
       have HI3 := Lib.hid ((HI2.out.grows ((Grows.refl _).drew)).grows hg3)
       have HR3 := Lib.hid ((HR2.out.grows ((Grows.refl _).drew)).grows hg3)
       have HA3 := Lib.hid ((HA2.out.grows ((Grows.refl _).drew)).grows hg3)
       have HG3 := Lib.hid ((HG2.out.drew).trans hg3)
       clear hM3 hg3))
  clear hlk HI2 HR2 HA2 HG2
  have z0 : World.cell? w3 ⟨b4, 0, none⟩ = some (.bool false) := (HA3).out.cell 0
  have z1 : World.cell? w3 ⟨b4, 1, none⟩ = some (.int .i64 0) := (HA3).out.cell 1
  have z2 : World.cell? w3 ⟨b4, 2, none⟩ = some (.int .i64 0) := (HA3).out.cell 2
  have z3 : World.cell? w3 ⟨b4, 3, none⟩ = some (.int .u64 0) := (HA3).out.cell 3
  have y0 := (HA3).out.frozen 0
  have y1 := (HA3).out.frozen 1
  have y2 := (HA3).out.frozen 2
  have y3 := (HA3).out.frozen 3
  have ly := (HA3).out.lt
  have i0 : w3.cell? ⟨b6, 0, none⟩ = some (.int .i64 26) := HI3.out.cell 0
  have i1 : w3.cell? ⟨b6, 1, none⟩ = some (.int .i64 rd) := HI3.out.cell 1
  have li := HI3.out.lt
  have hj := HJ.out
  clear HJ
  subst hj
  have i3 : w3.cell? ⟨b6, 3, none⟩ = some (.int .i64 (j : Int)) := HI3.out.cell 3
  have x0 : w3.cell? ⟨b3, 0, none⟩ = some (.int .u64 (f 0 : Nat)) := by rw [HR3.out.cell]; exact (hR.2 0 (by omega)).2
  have x1 := HR3.out.frozen 0
  have lx := HR3.out.lt
  go_wp2_with fail
  obtain ⟨W5, hW5⟩ : ∃ W5, W5 = (w3.setCell ⟨b3, 0, none⟩ (.int .u64 0)).alloc (Obj.cells #[.bool false, .int .i64 8, .int .i64 rd, .int .u64 0] 28) := ⟨_, rfl⟩
  obtain ⟨b7, hb7⟩ : ∃ b, b = w3.heap.size := ⟨_, rfl⟩
  rw [← hW5, ← hb7]
  have hn3 := HN.out
  have q3 := Row.set HR3.out 0 (.int .u64 0)
  have q4 := row_setOther HA3.out (p := ⟨b3, 0, none⟩) hn3.1.1 (.int .u64 0)
  have q6 := row_setOther HI3.out (p := ⟨b3, 0, none⟩) (fun e => hn3.2.1 e.symm) (.int .u64 0)
  have HR5 : Hid (Row W5 b3 (R.setIfInBounds 0 (.int .u64 0)) 26) := Lib.hid (by rw [hW5]; exact q3.grows ((Grows.refl _).alloc _))
  have HA5 : Hid (Row W5 b4 #[.bool false, .int .i64 0, .int .i64 0, .int .u64 0] 28) := Lib.hid (by rw [hW5]; exact q4.grows ((Grows.refl _).alloc _))
  have HI5 : Hid (Row W5 b6 #[.int .i64 26, .int .i64 rd, .int .i64 r1, .int .i64 (j : Int), .int .i64 v] 41) := Lib.hid (by rw [hW5]; exact q6.grows ((Grows.refl _).alloc _))
  have HX5 : Hid (Row W5 b7 #[.bool false, .int .i64 8, .int .i64 rd, .int .u64 0] 28) := Lib.hid (by rw [hW5]; exact Row.new_at _ _ _ (by rw [hb7]; simp [World.setCell]))
  have HG5 : Hid (Grows w W5) := Lib.hid (by rw [hW5]; exact (HG3.out.setCell (p := ⟨b3, 0, none⟩) HN.out.1.2.1 _).alloc _)
  have HN7 := Lib.hid (show b7 ≠ b3 ∧ b7 ≠ b4 ∧ b7 ≠ b6 ∧ w.heap.size ≤ b7 by
    have h1 := HR3.out.lt
    have h2 := HA3.out.lt
    have h3 := HI3.out.lt
    have h4 := HG3.out.size
    omega)
  clear hW5 hb7 q3 q4 q6 x0 x1 lx z0 z1 z2 z3 y0 y1 y2 y3 ly i0 i1 i3 li hn3 HR3 HA3 HI3 HG3
  have i3 : W5.cell? ⟨b6, 3, none⟩ = some (.int .i64 (j : Int)) := HI5.out.cell 3
  have e0 : W5.cell? ⟨b7, 0, none⟩ = some (.bool false) := HX5.out.cell 0
  have e2 : W5.cell? ⟨b7, 2, none⟩ = some (.int .i64 rd) := HX5.out.cell 2
  have d0 := HX5.out.frozen 0
  have d2 := HX5.out.frozen 2
  have li := HI5.out.lt
  have lx := HX5.out.lt
  have n67 : b7 ≠ b6 := HN7.out.2.2.1
  go_region
  go_wp2_with fail
  obtain ⟨W6, hW6⟩ : ∃ W6, W6 = ((W5.setCell ⟨b7, 0, none⟩ (.bool true)).setCell ⟨b7, 2, none⟩ (.int .i64 (j : Int))).drew := ⟨_, rfl⟩
  rw [← hW6]
  have q7 := Row.set (Row.set HX5.out 0 (.bool true)) 2 (.int .i64 (j : Int))
  have q3 := row_setOther (row_setOther HR5.out (p := ⟨b7, 0, none⟩) HN7.out.1 (.bool true)) (p := ⟨b7, 2, none⟩) HN7.out.1 (.int .i64 (j : Int))
  have q4 := row_setOther (row_setOther HA5.out (p := ⟨b7, 0, none⟩) HN7.out.2.1 (.bool true)) (p := ⟨b7, 2, none⟩) HN7.out.2.1 (.int .i64 (j : Int))
  have q6 := row_setOther (row_setOther HI5.out (p := ⟨b7, 0, none⟩) HN7.out.2.2.1 (.bool true)) (p := ⟨b7, 2, none⟩) HN7.out.2.2.1 (.int .i64 (j : Int))
  have HX6 : Hid (Row W6 b7 #[.bool true, .int .i64 8, .int .i64 (j : Int), .int .u64 0] 28) := Lib.hid (by rw [hW6]; exact q7.grows ((Grows.refl _).drew))
  have HR6 : Hid (Row W6 b3 (R.setIfInBounds 0 (.int .u64 0)) 26) := Lib.hid (by rw [hW6]; exact q3.grows ((Grows.refl _).drew))
  have HA6 : Hid (Row W6 b4 #[.bool false, .int .i64 0, .int .i64 0, .int .u64 0] 28) := Lib.hid (by rw [hW6]; exact q4.grows ((Grows.refl _).drew))
  have HI6 : Hid (Row W6 b6 #[.int .i64 26, .int .i64 rd, .int .i64 r1, .int .i64 (j : Int), .int .i64 v] 41) := Lib.hid (by rw [hW6]; exact q6.grows ((Grows.refl _).drew))
  have HG6 : Hid (Grows w W6) := Lib.hid (by rw [hW6]; exact ((HG5.out.setCell (p := ⟨b7, 0, none⟩) HN7.out.2.2.2 _).setCell (p := ⟨b7, 2, none⟩) HN7.out.2.2.2 _).drew)
  clear hW6 q7 q3 q4 q6 i3 e0 e2 d0 d2 li lx HR5 HA5 HI5 HX5 HG5
  obtain ⟨rv, hrv⟩ : ∃ rv, rv = rvF f j := ⟨_, rfl⟩
  have hrv64 : rv < 18446744073709551616 := by
    rw [hrv]; unfold rvF
    split
    · omega
    · exact (hR.2 j hj16).1
  have cj : W6.cell? ⟨b3, j, none⟩ = some (.int .u64 (rv : Nat)) := by
    rw [HR6.out.cell, Array.getElem?_setIfInBounds, hrv]
    unfold rvF
    by_cases e : j = 0
    · subst e; rw [if_pos rfl, if_pos (by rw [hR.1]; omega)]; rfl
    · rw [if_neg (fun h => e h.symm), if_neg e]; exact (hR.2 j hj16).2
  have hbits : bits .and .u64 (rv : Int) 18446744073709551615 = ((rv % 18446744073709551616 : Nat) : Int) := by
    have := and_mask_u64 (x := (rv : Int)) (n := 64) (by omega) (by omega) (by omega)
    simpa using this
  obtain ⟨vv, hvv⟩ : ∃ vv, vv = rv % 18446744073709551616 := ⟨_, rfl⟩
  rw [← hvv] at hbits
  have HVV : Hid (vv = rvF f j % 18446744073709551616) := Lib.hid (by rw [hvv, hrv])
  have hvv64 : vv < 18446744073709551616 := by omega
  have i3 : W6.cell? ⟨b6, 3, none⟩ = some (.int .i64 (j : Int)) := HI6.out.cell 3
  have e0 : W6.cell? ⟨b7, 0, none⟩ = some (.bool true) := HX6.out.cell 0
  have e1 : W6.cell? ⟨b7, 1, none⟩ = some (.int .i64 8) := HX6.out.cell 1
  have e2 : W6.cell? ⟨b7, 2, none⟩ = some (.int .i64 (j : Int)) := HX6.out.cell 2
  have e3 : W6.cell? ⟨b7, 3, none⟩ = some (.int .u64 0) := HX6.out.cell 3
  have d3 := HX6.out.frozen 3
  have lx := HX6.out.lt
  have li := HI6.out.lt
  have lr := HR6.out.lt
  have n67 := HN7.out.2.2.1
  have n63 := HN7.out.1
  have o1 : (j : Int) < 16 := by omega
  clear hrv hvv hR
  go_region
  obtain ⟨W7, hW7⟩ : ∃ W7, W7 = (W6.setCell ⟨b7, 3, none⟩ (.int .u64 (vv : Nat))).drew := ⟨_, rfl⟩
  rw [← hW7]
  have q7 := Row.set HX6.out 3 (.int .u64 (vv : Nat))
  have q4 := row_setOther HA6.out (p := ⟨b7, 3, none⟩) HN7.out.2.1 (.int .u64 (vv : Nat))
  have HX7 : Hid (Row W7 b7 #[.bool true, .int .i64 8, .int .i64 (j : Int), .int .u64 (vv : Nat)] 28) := Lib.hid (by rw [hW7]; exact q7.grows ((Grows.refl _).drew))
  have HA7 : Hid (Row W7 b4 #[.bool false, .int .i64 0, .int .i64 0, .int .u64 0] 28) := Lib.hid (by rw [hW7]; exact q4.grows ((Grows.refl _).drew))
  have HG7 : Hid (Grows w W7) := Lib.hid (by rw [hW7]; exact (HG6.out.setCell (p := ⟨b7, 3, none⟩) HN7.out.2.2.2 _).drew)
  clear hW7 q7 q4 i3 e0 e1 e2 e3 d3 lx li lr n67 n63 o1 HX6 HA6 HR6 HI6 HG6 cj hbits
  have z0 : World.cell? W7 ⟨b4, 0, none⟩ = some (.bool false) := (HA7).out.cell 0
  have z1 : World.cell? W7 ⟨b4, 1, none⟩ = some (.int .i64 0) := (HA7).out.cell 1
  have z2 : World.cell? W7 ⟨b4, 2, none⟩ = some (.int .i64 0) := (HA7).out.cell 2
  have z3 : World.cell? W7 ⟨b4, 3, none⟩ = some (.int .u64 0) := (HA7).out.cell 3
  have y0 := (HA7).out.frozen 0
  have y1 := (HA7).out.frozen 1
  have y2 := (HA7).out.frozen 2
  have y3 := (HA7).out.frozen 3
  have ly := (HA7).out.lt
  have e0 : W7.cell? ⟨b7, 0, none⟩ = some (.bool true) := HX7.out.cell 0
  have e1 : W7.cell? ⟨b7, 1, none⟩ = some (.int .i64 8) := HX7.out.cell 1
  have e2 : W7.cell? ⟨b7, 2, none⟩ = some (.int .i64 (j : Int)) := HX7.out.cell 2
  have e3 : W7.cell? ⟨b7, 3, none⟩ = some (.int .u64 (vv : Nat)) := HX7.out.cell 3
  go_wp2_with fail
  have hF := (Row.set (Row.set (Row.set (Row.set (HA7).out 0 (.bool true)) 1 (.int .i64 8)) 2 (.int .i64 (j : Int))) 3 (.int .u64 (vv : Nat))).cell
  have hGF := ((((HG7).out.setCell (p := ⟨b4, 0, none⟩) HN.out.1.2.2 (.bool true)).setCell (p := ⟨b4, 1, none⟩) HN.out.1.2.2 (.int .i64 8)).setCell (p := ⟨b4, 2, none⟩) HN.out.1.2.2 (.int .i64 (j : Int))).setCell (p := ⟨b4, 3, none⟩) HN.out.1.2.2 (.int .u64 (vv : Nat))
  exact bodyPost_ret (v := .tuple #[.agg #[.bool true, .int .i64 8, .int .i64 (j : Int), .int .u64 (vv : Nat)], .int .i64 0]) (by simp [results, Tryd.results5, go_sem, hF]) rfl ⟨by rw [HVV.out], hGF⟩
set_option maxRecDepth 100000 in
set_option maxHeartbeats 2000000 in
theorem edec_27 {f : Nat → Nat} (hR : RegN R f) {j : Nat} (hj : r2 = j) (hj16 : j < 16) (hop : op = 27) (hZ : Z = 0) (w : World) :
    Calls Tryd.prog 5 #[.int .u32 x, .agg R] w fun r w' => r = .returned (.tuple #[.agg #[.bool true, .int .i64 4, .int .i64 (j : Int), .int .u64 (rvF f j % 4294967296 : Nat)], .int .i64 0]) ∧ Grows w w' := by
  have HJ := Lib.hid hj
  clear hj
  subst hop hZ
  have HWA : Hid ((wdF 27).getD 0 = 4) := Lib.hid (by decide)
  have HWB : Hid ((wdF 27).isSome = true) := Lib.hid (by decide)
  have wop : wf64 27 := by decide
  go_enter Tryd.func5, Tryd.ntmps5
  go_wp2_with fail
  obtain ⟨W, hW⟩ : ∃ W, W = (w.alloc (Obj.cells R 26)).alloc (Obj.cells #[.bool false, .int .i64 0, .int .i64 0, .int .u64 0] 28) := ⟨_, rfl⟩
  obtain ⟨b3, hb3⟩ : ∃ b, b = w.heap.size := ⟨_, rfl⟩
  obtain ⟨b4, hb4⟩ : ∃ b, b = w.heap.size + 1 := ⟨_, rfl⟩
  rw [← hW, ← hb4, ← hb3]
  have hG0 : Grows w W := by rw [hW]; exact ((Grows.refl _).alloc _).alloc _
  have hR0 : Row W b3 R 26 := by rw [hW]; exact (Row.new_at _ _ _ hb3).grows ((Grows.refl _).alloc _)
  have hA0 : Row W b4 #[.bool false, .int .i64 0, .int .i64 0, .int .u64 0] 28 := by rw [hW]; exact Row.new_at _ _ _ (by rw [hb4]; simp)
  have hn34 : b3 ≠ b4 ∧ w.heap.size ≤ b3 ∧ w.heap.size ≤ b4 := by omega
  clear hW hb3 hb4
  refine (hd W).mono ?_
  rintro _ w1 ⟨rfl, hg1⟩
  go_wp2_with fail
  obtain ⟨W2, hW2⟩ : ∃ W2, W2 = w1.alloc (Obj.cells #[.int .i64 27, .int .i64 rd, .int .i64 r1, .int .i64 r2, .int .i64 v] 41) := ⟨_, rfl⟩
  obtain ⟨b6, hb6⟩ : ∃ b, b = w1.heap.size := ⟨_, rfl⟩
  rw [← hW2, ← hb6]
  have hg2 : Grows w1 W2 := by rw [hW2]; exact (Grows.refl _).alloc _
  have hI2 : Row W2 b6 #[.int .i64 27, .int .i64 rd, .int .i64 r1, .int .i64 r2, .int .i64 v] 41 := by rw [hW2]; exact Row.new_at _ _ _ hb6
  have HN := Lib.hid (show (b3 ≠ b4 ∧ w.heap.size ≤ b3 ∧ w.heap.size ≤ b4) ∧ b6 ≠ b3 ∧ b6 ≠ b4 ∧ w.heap.size ≤ b6 by
    have h1 := (hR0.grows hg1).lt
    have h2 := (hA0.grows hg1).lt
    omega)
  have HG2 := Lib.hid ((hG0.trans hg1).trans hg2)
  have HR2 := Lib.hid ((hR0.grows hg1).grows hg2)
  have HA2 := Lib.hid ((hA0.grows hg1).grows hg2)
  have HI2 := Lib.hid hI2
  clear hW2 hb6 hG0 hR0 hA0 hn34 hg1 hg2 hI2
  go_region_held3 (fun w' => w'.cell? ⟨b6, 0, none⟩ = some (.int .i64 27)) (first
    | exact HI3.out.cell 0
    | exact (HI2.out.grows ((Grows.refl _).drew)).cell 0)
    (first
    | (go_at_call 13; refine (widths_map _).mono ?_; rintro _ w3 ⟨bw, sw, rfl, hM3, hg3⟩
       have hlk := (hM3.look_ok Tryd.underlying3 Tryd.underlying3 Tryd.underlying49 (zero_int' w3) wop).1
       rw [HWA.out, HWB.out] at hlk
       have HI3 := Lib.hid ((HI2.out.grows ((Grows.refl _).drew)).grows hg3)
       have HR3 := Lib.hid ((HR2.out.grows ((Grows.refl _).drew)).grows hg3)
       have HA3 := Lib.hid ((HA2.out.grows ((Grows.refl _).drew)).grows hg3)
       have HG3 := Lib.hid ((HG2.out.drew).trans hg3)
       clear hM3 hg3))
  clear hlk HI2 HR2 HA2 HG2
  have z0 : World.cell? w3 ⟨b4, 0, none⟩ = some (.bool false) := (HA3).out.cell 0
  have z1 : World.cell? w3 ⟨b4, 1, none⟩ = some (.int .i64 0) := (HA3).out.cell 1
  have z2 : World.cell? w3 ⟨b4, 2, none⟩ = some (.int .i64 0) := (HA3).out.cell 2
  have z3 : World.cell? w3 ⟨b4, 3, none⟩ = some (.int .u64 0) := (HA3).out.cell 3
  have y0 := (HA3).out.frozen 0
  have y1 := (HA3).out.frozen 1
  have y2 := (HA3).out.frozen 2
  have y3 := (HA3).out.frozen 3
  have ly := (HA3).out.lt
  have i0 : w3.cell? ⟨b6, 0, none⟩ = some (.int .i64 27) := HI3.out.cell 0
  have i1 : w3.cell? ⟨b6, 1, none⟩ = some (.int .i64 rd) := HI3.out.cell 1
  have li := HI3.out.lt
  have hj := HJ.out
  clear HJ
  subst hj
  have i3 : w3.cell? ⟨b6, 3, none⟩ = some (.int .i64 (j : Int)) := HI3.out.cell 3
  have x0 : w3.cell? ⟨b3, 0, none⟩ = some (.int .u64 (f 0 : Nat)) := by rw [HR3.out.cell]; exact (hR.2 0 (by omega)).2
  have x1 := HR3.out.frozen 0
  have lx := HR3.out.lt
  go_wp2_with fail
  obtain ⟨W5, hW5⟩ : ∃ W5, W5 = (w3.setCell ⟨b3, 0, none⟩ (.int .u64 0)).alloc (Obj.cells #[.bool false, .int .i64 4, .int .i64 rd, .int .u64 0] 28) := ⟨_, rfl⟩
  obtain ⟨b7, hb7⟩ : ∃ b, b = w3.heap.size := ⟨_, rfl⟩
  rw [← hW5, ← hb7]
  have hn3 := HN.out
  have q3 := Row.set HR3.out 0 (.int .u64 0)
  have q4 := row_setOther HA3.out (p := ⟨b3, 0, none⟩) hn3.1.1 (.int .u64 0)
  have q6 := row_setOther HI3.out (p := ⟨b3, 0, none⟩) (fun e => hn3.2.1 e.symm) (.int .u64 0)
  have HR5 : Hid (Row W5 b3 (R.setIfInBounds 0 (.int .u64 0)) 26) := Lib.hid (by rw [hW5]; exact q3.grows ((Grows.refl _).alloc _))
  have HA5 : Hid (Row W5 b4 #[.bool false, .int .i64 0, .int .i64 0, .int .u64 0] 28) := Lib.hid (by rw [hW5]; exact q4.grows ((Grows.refl _).alloc _))
  have HI5 : Hid (Row W5 b6 #[.int .i64 27, .int .i64 rd, .int .i64 r1, .int .i64 (j : Int), .int .i64 v] 41) := Lib.hid (by rw [hW5]; exact q6.grows ((Grows.refl _).alloc _))
  have HX5 : Hid (Row W5 b7 #[.bool false, .int .i64 4, .int .i64 rd, .int .u64 0] 28) := Lib.hid (by rw [hW5]; exact Row.new_at _ _ _ (by rw [hb7]; simp [World.setCell]))
  have HG5 : Hid (Grows w W5) := Lib.hid (by rw [hW5]; exact (HG3.out.setCell (p := ⟨b3, 0, none⟩) HN.out.1.2.1 _).alloc _)
  have HN7 := Lib.hid (show b7 ≠ b3 ∧ b7 ≠ b4 ∧ b7 ≠ b6 ∧ w.heap.size ≤ b7 by
    have h1 := HR3.out.lt
    have h2 := HA3.out.lt
    have h3 := HI3.out.lt
    have h4 := HG3.out.size
    omega)
  clear hW5 hb7 q3 q4 q6 x0 x1 lx z0 z1 z2 z3 y0 y1 y2 y3 ly i0 i1 i3 li hn3 HR3 HA3 HI3 HG3
  have i3 : W5.cell? ⟨b6, 3, none⟩ = some (.int .i64 (j : Int)) := HI5.out.cell 3
  have e0 : W5.cell? ⟨b7, 0, none⟩ = some (.bool false) := HX5.out.cell 0
  have e2 : W5.cell? ⟨b7, 2, none⟩ = some (.int .i64 rd) := HX5.out.cell 2
  have d0 := HX5.out.frozen 0
  have d2 := HX5.out.frozen 2
  have li := HI5.out.lt
  have lx := HX5.out.lt
  have n67 : b7 ≠ b6 := HN7.out.2.2.1
  go_region
  go_wp2_with fail
  obtain ⟨W6, hW6⟩ : ∃ W6, W6 = ((W5.setCell ⟨b7, 0, none⟩ (.bool true)).setCell ⟨b7, 2, none⟩ (.int .i64 (j : Int))).drew := ⟨_, rfl⟩
  rw [← hW6]
  have q7 := Row.set (Row.set HX5.out 0 (.bool true)) 2 (.int .i64 (j : Int))
  have q3 := row_setOther (row_setOther HR5.out (p := ⟨b7, 0, none⟩) HN7.out.1 (.bool true)) (p := ⟨b7, 2, none⟩) HN7.out.1 (.int .i64 (j : Int))
  have q4 := row_setOther (row_setOther HA5.out (p := ⟨b7, 0, none⟩) HN7.out.2.1 (.bool true)) (p := ⟨b7, 2, none⟩) HN7.out.2.1 (.int .i64 (j : Int))
  have q6 := row_setOther (row_setOther HI5.out (p := ⟨b7, 0, none⟩) HN7.out.2.2.1 (.bool true)) (p := ⟨b7, 2, none⟩) HN7.out.2.2.1 (.int .i64 (j : Int))
  have HX6 : Hid (Row W6 b7 #[.bool true, .int .i64 4, .int .i64 (j : Int), .int .u64 0] 28) := Lib.hid (by rw [hW6]; exact q7.grows ((Grows.refl _).drew))
  have HR6 : Hid (Row W6 b3 (R.setIfInBounds 0 (.int .u64 0)) 26) := Lib.hid (by rw [hW6]; exact q3.grows ((Grows.refl _).drew))
  have HA6 : Hid (Row W6 b4 #[.bool false, .int .i64 0, .int .i64 0, .int .u64 0] 28) := Lib.hid (by rw [hW6]; exact q4.grows ((Grows.refl _).drew))
  have HI6 : Hid (Row W6 b6 #[.int .i64 27, .int .i64 rd, .int .i64 r1, .int .i64 (j : Int), .int .i64 v] 41) := Lib.hid (by rw [hW6]; exact q6.grows ((Grows.refl _).drew))
  have HG6 : Hid (Grows w W6) := Lib.hid (by rw [hW6]; exact ((HG5.out.setCell (p := ⟨b7, 0, none⟩) HN7.out.2.2.2 _).setCell (p := ⟨b7, 2, none⟩) HN7.out.2.2.2 _).drew)
  clear hW6 q7 q3 q4 q6 i3 e0 e2 d0 d2 li lx HR5 HA5 HI5 HX5 HG5
  obtain ⟨rv, hrv⟩ : ∃ rv, rv = rvF f j := ⟨_, rfl⟩
  have hrv64 : rv < 18446744073709551616 := by
    rw [hrv]; unfold rvF
    split
    · omega
    · exact (hR.2 j hj16).1
  have cj : W6.cell? ⟨b3, j, none⟩ = some (.int .u64 (rv : Nat)) := by
    rw [HR6.out.cell, Array.getElem?_setIfInBounds, hrv]
    unfold rvF
    by_cases e : j = 0
    · subst e; rw [if_pos rfl, if_pos (by rw [hR.1]; omega)]; rfl
    · rw [if_neg (fun h => e h.symm), if_neg e]; exact (hR.2 j hj16).2
  have hbits : bits .and .u64 (rv : Int) 4294967295 = ((rv % 4294967296 : Nat) : Int) := by
    have := and_mask_u64 (x := (rv : Int)) (n := 32) (by omega) (by omega) (by omega)
    simpa using this
  obtain ⟨vv, hvv⟩ : ∃ vv, vv = rv % 4294967296 := ⟨_, rfl⟩
  rw [← hvv] at hbits
  have HVV : Hid (vv = rvF f j % 4294967296) := Lib.hid (by rw [hvv, hrv])
  have hvv64 : vv < 18446744073709551616 := by omega
  have i3 : W6.cell? ⟨b6, 3, none⟩ = some (.int .i64 (j : Int)) := HI6.out.cell 3
  have e0 : W6.cell? ⟨b7, 0, none⟩ = some (.bool true) := HX6.out.cell 0
  have e1 : W6.cell? ⟨b7, 1, none⟩ = some (.int .i64 4) := HX6.out.cell 1
  have e2 : W6.cell? ⟨b7, 2, none⟩ = some (.int .i64 (j : Int)) := HX6.out.cell 2
  have e3 : W6.cell? ⟨b7, 3, none⟩ = some (.int .u64 0) := HX6.out.cell 3
  have d3 := HX6.out.frozen 3
  have lx := HX6.out.lt
  have li := HI6.out.lt
  have lr := HR6.out.lt
  have n67 := HN7.out.2.2.1
  have n63 := HN7.out.1
  have o1 : (j : Int) < 16 := by omega
  clear hrv hvv hR
  go_region
  obtain ⟨W7, hW7⟩ : ∃ W7, W7 = (W6.setCell ⟨b7, 3, none⟩ (.int .u64 (vv : Nat))).drew := ⟨_, rfl⟩
  rw [← hW7]
  have q7 := Row.set HX6.out 3 (.int .u64 (vv : Nat))
  have q4 := row_setOther HA6.out (p := ⟨b7, 3, none⟩) HN7.out.2.1 (.int .u64 (vv : Nat))
  have HX7 : Hid (Row W7 b7 #[.bool true, .int .i64 4, .int .i64 (j : Int), .int .u64 (vv : Nat)] 28) := Lib.hid (by rw [hW7]; exact q7.grows ((Grows.refl _).drew))
  have HA7 : Hid (Row W7 b4 #[.bool false, .int .i64 0, .int .i64 0, .int .u64 0] 28) := Lib.hid (by rw [hW7]; exact q4.grows ((Grows.refl _).drew))
  have HG7 : Hid (Grows w W7) := Lib.hid (by rw [hW7]; exact (HG6.out.setCell (p := ⟨b7, 3, none⟩) HN7.out.2.2.2 _).drew)
  clear hW7 q7 q4 i3 e0 e1 e2 e3 d3 lx li lr n67 n63 o1 HX6 HA6 HR6 HI6 HG6 cj hbits
  have z0 : World.cell? W7 ⟨b4, 0, none⟩ = some (.bool false) := (HA7).out.cell 0
  have z1 : World.cell? W7 ⟨b4, 1, none⟩ = some (.int .i64 0) := (HA7).out.cell 1
  have z2 : World.cell? W7 ⟨b4, 2, none⟩ = some (.int .i64 0) := (HA7).out.cell 2
  have z3 : World.cell? W7 ⟨b4, 3, none⟩ = some (.int .u64 0) := (HA7).out.cell 3
  have y0 := (HA7).out.frozen 0
  have y1 := (HA7).out.frozen 1
  have y2 := (HA7).out.frozen 2
  have y3 := (HA7).out.frozen 3
  have ly := (HA7).out.lt
  have e0 : W7.cell? ⟨b7, 0, none⟩ = some (.bool true) := HX7.out.cell 0
  have e1 : W7.cell? ⟨b7, 1, none⟩ = some (.int .i64 4) := HX7.out.cell 1
  have e2 : W7.cell? ⟨b7, 2, none⟩ = some (.int .i64 (j : Int)) := HX7.out.cell 2
  have e3 : W7.cell? ⟨b7, 3, none⟩ = some (.int .u64 (vv : Nat)) := HX7.out.cell 3
  go_wp2_with fail
  have hF := (Row.set (Row.set (Row.set (Row.set (HA7).out 0 (.bool true)) 1 (.int .i64 4)) 2 (.int .i64 (j : Int))) 3 (.int .u64 (vv : Nat))).cell
  have hGF := ((((HG7).out.setCell (p := ⟨b4, 0, none⟩) HN.out.1.2.2 (.bool true)).setCell (p := ⟨b4, 1, none⟩) HN.out.1.2.2 (.int .i64 4)).setCell (p := ⟨b4, 2, none⟩) HN.out.1.2.2 (.int .i64 (j : Int))).setCell (p := ⟨b4, 3, none⟩) HN.out.1.2.2 (.int .u64 (vv : Nat))
  exact bodyPost_ret (v := .tuple #[.agg #[.bool true, .int .i64 4, .int .i64 (j : Int), .int .u64 (vv : Nat)], .int .i64 0]) (by simp [results, Tryd.results5, go_sem, hF]) rfl ⟨by rw [HVV.out], hGF⟩
set_option maxRecDepth 100000 in
set_option maxHeartbeats 2000000 in
theorem edec_28 {f : Nat → Nat} (hR : RegN R f) {j : Nat} (hj : r2 = j) (hj16 : j < 16) (hop : op = 28) (hZ : Z = 0) (w : World) :
    Calls Tryd.prog 5 #[.int .u32 x, .agg R] w fun r w' => r = .returned (.tuple #[.agg #[.bool true, .int .i64 1, .int .i64 (j : Int), .int .u64 (rvF f j % 256 : Nat)], .int .i64 0]) ∧ Grows w w' := by
  have HJ := Lib.hid hj
  clear hj
  subst hop hZ
  have HWA : Hid ((wdF 28).getD 0 = 1) := Lib.hid (by decide)
  have HWB : Hid ((wdF 28).isSome = true) := Lib.hid (by decide)
  have wop : wf64 28 := by decide
  go_enter Tryd.func5, Tryd.ntmps5
  go_wp2_with fail
  obtain ⟨W, hW⟩ : ∃ W, W = (w.alloc (Obj.cells R 26)).alloc (Obj.cells #[.bool false, .int .i64 0, .int .i64 0, .int .u64 0] 28) := ⟨_, rfl⟩
  obtain ⟨b3, hb3⟩ : ∃ b, b = w.heap.size := ⟨_, rfl⟩
  obtain ⟨b4, hb4⟩ : ∃ b, b = w.heap.size + 1 := ⟨_, rfl⟩
  rw [← hW, ← hb4, ← hb3]
  have hG0 : Grows w W := by rw [hW]; exact ((Grows.refl _).alloc _).alloc _
  have hR0 : Row W b3 R 26 := by rw [hW]; exact (Row.new_at _ _ _ hb3).grows ((Grows.refl _).alloc _)
  have hA0 : Row W b4 #[.bool false, .int .i64 0, .int .i64 0, .int .u64 0] 28 := by rw [hW]; exact Row.new_at _ _ _ (by rw [hb4]; simp)
  have hn34 : b3 ≠ b4 ∧ w.heap.size ≤ b3 ∧ w.heap.size ≤ b4 := by omega
  clear hW hb3 hb4
  refine (hd W).mono ?_
  rintro _ w1 ⟨rfl, hg1⟩
  go_wp2_with fail
  obtain ⟨W2, hW2⟩ : ∃ W2, W2 = w1.alloc (Obj.cells #[.int .i64 28, .int .i64 rd, .int .i64 r1, .int .i64 r2, .int .i64 v] 41) := ⟨_, rfl⟩
  obtain ⟨b6, hb6⟩ : ∃ b, b = w1.heap.size := ⟨_, rfl⟩
  rw [← hW2, ← hb6]
  have hg2 : Grows w1 W2 := by rw [hW2]; exact (Grows.refl _).alloc _
  have hI2 : Row W2 b6 #[.int .i64 28, .int .i64 rd, .int .i64 r1, .int .i64 r2, .int .i64 v] 41 := by rw [hW2]; exact Row.new_at _ _ _ hb6
  have HN := Lib.hid (show (b3 ≠ b4 ∧ w.heap.size ≤ b3 ∧ w.heap.size ≤ b4) ∧ b6 ≠ b3 ∧ b6 ≠ b4 ∧ w.heap.size ≤ b6 by
    have h1 := (hR0.grows hg1).lt
    have h2 := (hA0.grows hg1).lt
    omega)
  have HG2 := Lib.hid ((hG0.trans hg1).trans hg2)
  have HR2 := Lib.hid ((hR0.grows hg1).grows hg2)
  have HA2 := Lib.hid ((hA0.grows hg1).grows hg2)
  have HI2 := Lib.hid hI2
  clear hW2 hb6 hG0 hR0 hA0 hn34 hg1 hg2 hI2
  go_region_held3 (fun w' => w'.cell? ⟨b6, 0, none⟩ = some (.int .i64 28)) (first
    | exact HI3.out.cell 0
    | exact (HI2.out.grows ((Grows.refl _).drew)).cell 0)
    (first
    | (go_at_call 13; refine (widths_map _).mono ?_; rintro _ w3 ⟨bw, sw, rfl, hM3, hg3⟩
       have hlk := (hM3.look_ok Tryd.underlying3 Tryd.underlying3 Tryd.underlying49 (zero_int' w3) wop).1
       rw [HWA.out, HWB.out] at hlk
       have HI3 := Lib.hid ((HI2.out.grows ((Grows.refl _).drew)).grows hg3)
       have HR3 := Lib.hid ((HR2.out.grows ((Grows.refl _).drew)).grows hg3)
       have HA3 := Lib.hid ((HA2.out.grows ((Grows.refl _).drew)).grows hg3)
       have HG3 := Lib.hid ((HG2.out.drew).trans hg3)
       clear hM3 hg3))
  clear hlk HI2 HR2 HA2 HG2
  have z0 : World.cell? w3 ⟨b4, 0, none⟩ = some (.bool false) := (HA3).out.cell 0
  have z1 : World.cell? w3 ⟨b4, 1, none⟩ = some (.int .i64 0) := (HA3).out.cell 1
  have z2 : World.cell? w3 ⟨b4, 2, none⟩ = some (.int .i64 0) := (HA3).out.cell 2
  have z3 : World.cell? w3 ⟨b4, 3, none⟩ = some (.int .u64 0) := (HA3).out.cell 3
  have y0 := (HA3).out.frozen 0
  have y1 := (HA3).out.frozen 1
  have y2 := (HA3).out.frozen 2
  have y3 := (HA3).out.frozen 3
  have ly := (HA3).out.lt
  have i0 : w3.cell? ⟨b6, 0, none⟩ = some (.int .i64 28) := HI3.out.cell 0
  have i1 : w3.cell? ⟨b6, 1, none⟩ = some (.int .i64 rd) := HI3.out.cell 1
  have li := HI3.out.lt
  have hj := HJ.out
  clear HJ
  subst hj
  have i3 : w3.cell? ⟨b6, 3, none⟩ = some (.int .i64 (j : Int)) := HI3.out.cell 3
  have x0 : w3.cell? ⟨b3, 0, none⟩ = some (.int .u64 (f 0 : Nat)) := by rw [HR3.out.cell]; exact (hR.2 0 (by omega)).2
  have x1 := HR3.out.frozen 0
  have lx := HR3.out.lt
  go_wp2_with fail
  obtain ⟨W5, hW5⟩ : ∃ W5, W5 = (w3.setCell ⟨b3, 0, none⟩ (.int .u64 0)).alloc (Obj.cells #[.bool false, .int .i64 1, .int .i64 rd, .int .u64 0] 28) := ⟨_, rfl⟩
  obtain ⟨b7, hb7⟩ : ∃ b, b = w3.heap.size := ⟨_, rfl⟩
  rw [← hW5, ← hb7]
  have hn3 := HN.out
  have q3 := Row.set HR3.out 0 (.int .u64 0)
  have q4 := row_setOther HA3.out (p := ⟨b3, 0, none⟩) hn3.1.1 (.int .u64 0)
  have q6 := row_setOther HI3.out (p := ⟨b3, 0, none⟩) (fun e => hn3.2.1 e.symm) (.int .u64 0)
  have HR5 : Hid (Row W5 b3 (R.setIfInBounds 0 (.int .u64 0)) 26) := Lib.hid (by rw [hW5]; exact q3.grows ((Grows.refl _).alloc _))
  have HA5 : Hid (Row W5 b4 #[.bool false, .int .i64 0, .int .i64 0, .int .u64 0] 28) := Lib.hid (by rw [hW5]; exact q4.grows ((Grows.refl _).alloc _))
  have HI5 : Hid (Row W5 b6 #[.int .i64 28, .int .i64 rd, .int .i64 r1, .int .i64 (j : Int), .int .i64 v] 41) := Lib.hid (by rw [hW5]; exact q6.grows ((Grows.refl _).alloc _))
  have HX5 : Hid (Row W5 b7 #[.bool false, .int .i64 1, .int .i64 rd, .int .u64 0] 28) := Lib.hid (by rw [hW5]; exact Row.new_at _ _ _ (by rw [hb7]; simp [World.setCell]))
  have HG5 : Hid (Grows w W5) := Lib.hid (by rw [hW5]; exact (HG3.out.setCell (p := ⟨b3, 0, none⟩) HN.out.1.2.1 _).alloc _)
  have HN7 := Lib.hid (show b7 ≠ b3 ∧ b7 ≠ b4 ∧ b7 ≠ b6 ∧ w.heap.size ≤ b7 by
    have h1 := HR3.out.lt
    have h2 := HA3.out.lt
    have h3 := HI3.out.lt
    have h4 := HG3.out.size
    omega)
  clear hW5 hb7 q3 q4 q6 x0 x1 lx z0 z1 z2 z3 y0 y1 y2 y3 ly i0 i1 i3 li hn3 HR3 HA3 HI3 HG3
  have i3 : W5.cell? ⟨b6, 3, none⟩ = some (.int .i64 (j : Int)) := HI5.out.cell 3
  have e0 : W5.cell? ⟨b7, 0, none⟩ = some (.bool false) := HX5.out.cell 0
  have e2 : W5.cell? ⟨b7, 2, none⟩ = some (.int .i64 rd) := HX5.out.cell 2
  have d0 := HX5.out.frozen 0
  have d2 := HX5.out.frozen 2
  have li := HI5.out.lt
  have lx := HX5.out.lt
  have n67 : b7 ≠ b6 := HN7.out.2.2.1
  go_region
  go_wp2_with fail
  obtain ⟨W6, hW6⟩ : ∃ W6, W6 = ((W5.setCell ⟨b7, 0, none⟩ (.bool true)).setCell ⟨b7, 2, none⟩ (.int .i64 (j : Int))).drew := ⟨_, rfl⟩
  rw [← hW6]
  have q7 := Row.set (Row.set HX5.out 0 (.bool true)) 2 (.int .i64 (j : Int))
  have q3 := row_setOther (row_setOther HR5.out (p := ⟨b7, 0, none⟩) HN7.out.1 (.bool true)) (p := ⟨b7, 2, none⟩) HN7.out.1 (.int .i64 (j : Int))
  have q4 := row_setOther (row_setOther HA5.out (p := ⟨b7, 0, none⟩) HN7.out.2.1 (.bool true)) (p := ⟨b7, 2, none⟩) HN7.out.2.1 (.int .i64 (j : Int))
  have q6 := row_setOther (row_setOther HI5.out (p := ⟨b7, 0, none⟩) HN7.out.2.2.1 (.bool true)) (p := ⟨b7, 2, none⟩) HN7.out.2.2.1 (.int .i64 (j : Int))
  have HX6 : Hid (Row W6 b7 #[.bool true, .int .i64 1, .int .i64 (j : Int), .int .u64 0] 28) := Lib.hid (by rw [hW6]; exact q7.grows ((Grows.refl _).drew))
  have HR6 : Hid (Row W6 b3 (R.setIfInBounds 0 (.int .u64 0)) 26) := Lib.hid (by rw [hW6]; exact q3.grows ((Grows.refl _).drew))
  have HA6 : Hid (Row W6 b4 #[.bool false, .int .i64 0, .int .i64 0, .int .u64 0] 28) := Lib.hid (by rw [hW6]; exact q4.grows ((Grows.refl _).drew))
  have HI6 : Hid (Row W6 b6 #[.int .i64 28, .int .i64 rd, .int .i64 r1, .int .i64 (j : Int), .int .i64 v] 41) := Lib.hid (by rw [hW6]; exact q6.grows ((Grows.refl _).drew))
  have HG6 : Hid (Grows w W6) := Lib.hid (by rw [hW6]; exact ((HG5.out.setCell (p := ⟨b7, 0, none⟩) HN7.out.2.2.2 _).setCell (p := ⟨b7, 2, none⟩) HN7.out.2.2.2 _).drew)
  clear hW6 q7 q3 q4 q6 i3 e0 e2 d0 d2 li lx HR5 HA5 HI5 HX5 HG5
  obtain ⟨rv, hrv⟩ : ∃ rv, rv = rvF f j := ⟨_, rfl⟩
  have hrv64 : rv < 18446744073709551616 := by
    rw [hrv]; unfold rvF
    split
    · omega
    · exact (hR.2 j hj16).1
  have cj : W6.cell? ⟨b3, j, none⟩ = some (.int .u64 (rv : Nat)) := by
    rw [HR6.out.cell, Array.getElem?_setIfInBounds, hrv]
    unfold rvF
    by_cases e : j = 0
    · subst e; rw [if_pos rfl, if_pos (by rw [hR.1]; omega)]; rfl
    · rw [if_neg (fun h => e h.symm), if_neg e]; exact (hR.2 j hj16).2
  have hbits : bits .and .u64 (rv : Int) 255 = ((rv % 256 : Nat) : Int) := by
    have := and_mask_u64 (x := (rv : Int)) (n := 8) (by omega) (by omega) (by omega)
    simpa using this
  obtain ⟨vv, hvv⟩ : ∃ vv, vv = rv % 256 := ⟨_, rfl⟩
  rw [← hvv] at hbits
  have HVV : Hid (vv = rvF f j % 256) := Lib.hid (by rw [hvv, hrv])
  have hvv64 : vv < 18446744073709551616 := by omega
  have i3 : W6.cell? ⟨b6, 3, none⟩ = some (.int .i64 (j : Int)) := HI6.out.cell 3
  have e0 : W6.cell? ⟨b7, 0, none⟩ = some (.bool true) := HX6.out.cell 0
  have e1 : W6.cell? ⟨b7, 1, none⟩ = some (.int .i64 1) := HX6.out.cell 1
  have e2 : W6.cell? ⟨b7, 2, none⟩ = some (.int .i64 (j : Int)) := HX6.out.cell 2
  have e3 : W6.cell? ⟨b7, 3, none⟩ = some (.int .u64 0) := HX6.out.cell 3
  have d3 := HX6.out.frozen 3
  have lx := HX6.out.lt
  have li := HI6.out.lt
  have lr := HR6.out.lt
  have n67 := HN7.out.2.2.1
  have n63 := HN7.out.1
  have o1 : (j : Int) < 16 := by omega
  clear hrv hvv hR
  go_region
  obtain ⟨W7, hW7⟩ : ∃ W7, W7 = (W6.setCell ⟨b7, 3, none⟩ (.int .u64 (vv : Nat))).drew := ⟨_, rfl⟩
  rw [← hW7]
  have q7 := Row.set HX6.out 3 (.int .u64 (vv : Nat))
  have q4 := row_setOther HA6.out (p := ⟨b7, 3, none⟩) HN7.out.2.1 (.int .u64 (vv : Nat))
  have HX7 : Hid (Row W7 b7 #[.bool true, .int .i64 1, .int .i64 (j : Int), .int .u64 (vv : Nat)] 28) := Lib.hid (by rw [hW7]; exact q7.grows ((Grows.refl _).drew))
  have HA7 : Hid (Row W7 b4 #[.bool false, .int .i64 0, .int .i64 0, .int .u64 0] 28) := Lib.hid (by rw [hW7]; exact q4.grows ((Grows.refl _).drew))
  have HG7 : Hid (Grows w W7) := Lib.hid (by rw [hW7]; exact (HG6.out.setCell (p := ⟨b7, 3, none⟩) HN7.out.2.2.2 _).drew)
  clear hW7 q7 q4 i3 e0 e1 e2 e3 d3 lx li lr n67 n63 o1 HX6 HA6 HR6 HI6 HG6 cj hbits
  have z0 : World.cell? W7 ⟨b4, 0, none⟩ = some (.bool false) := (HA7).out.cell 0
  have z1 : World.cell? W7 ⟨b4, 1, none⟩ = some (.int .i64 0) := (HA7).out.cell 1
  have z2 : World.cell? W7 ⟨b4, 2, none⟩ = some (.int .i64 0) := (HA7).out.cell 2
  have z3 : World.cell? W7 ⟨b4, 3, none⟩ = some (.int .u64 0) := (HA7).out.cell 3
  have y0 := (HA7).out.frozen 0
  have y1 := (HA7).out.frozen 1
  have y2 := (HA7).out.frozen 2
  have y3 := (HA7).out.frozen 3
  have ly := (HA7).out.lt
  have e0 : W7.cell? ⟨b7, 0, none⟩ = some (.bool true) := HX7.out.cell 0
  have e1 : W7.cell? ⟨b7, 1, none⟩ = some (.int .i64 1) := HX7.out.cell 1
  have e2 : W7.cell? ⟨b7, 2, none⟩ = some (.int .i64 (j : Int)) := HX7.out.cell 2
  have e3 : W7.cell? ⟨b7, 3, none⟩ = some (.int .u64 (vv : Nat)) := HX7.out.cell 3
  go_wp2_with fail
  have hF := (Row.set (Row.set (Row.set (Row.set (HA7).out 0 (.bool true)) 1 (.int .i64 1)) 2 (.int .i64 (j : Int))) 3 (.int .u64 (vv : Nat))).cell
  have hGF := ((((HG7).out.setCell (p := ⟨b4, 0, none⟩) HN.out.1.2.2 (.bool true)).setCell (p := ⟨b4, 1, none⟩) HN.out.1.2.2 (.int .i64 1)).setCell (p := ⟨b4, 2, none⟩) HN.out.1.2.2 (.int .i64 (j : Int))).setCell (p := ⟨b4, 3, none⟩) HN.out.1.2.2 (.int .u64 (vv : Nat))
  exact bodyPost_ret (v := .tuple #[.agg #[.bool true, .int .i64 1, .int .i64 (j : Int), .int .u64 (vv : Nat)], .int .i64 0]) (by simp [results, Tryd.results5, go_sem, hF]) rfl ⟨by rw [HVV.out], hGF⟩
end
end Go.Proofs.YtjbgamifkgeodaaDoor
