/- The walk of EmulateStores. -/
import Derived.Test.YtjbgamifkgeodaaDoorEmuF
import Derived.Test.YtjbgamifkgeodaaDoorEmuRD
import Derived.Test.YtjbgamifkgeodaaDoorInsnB
namespace Go.Proofs.YtjbgamifkgeodaaDoor
open Go Go.RowKit
set_option linter.unusedSimpArgs false
set_option linter.unusedVariables false
theorem ld5 : ldV 5 8 = 5 ∧ ldV 5 4 = 5 ∧ ldV 5 1 = 5 := by decide
/-- A load's word: what becomes of it. -/
theorem sto_load {op j : Nat} (hv : validB op j 7 0 0 = true) :
    (∀ w, Calls Tryd.prog 11 #[.agg #[.int .i64 op, .int .i64 j, .int .i64 7, .int .i64 0, .int .i64 0]] w fun r w' => r = .returned (.tuple #[.int .u32 (encW op j 7 0 0), .int .i64 0]) ∧ Grows w w') ∧
    ∀ w, Calls Tryd.prog 12 #[.int .u32 (encW op j 7 0 0)] w fun r w' => r = .returned (.tuple #[.agg #[.int .i64 op, .int .i64 j, .int .i64 7, .int .i64 0, .int .i64 0], .int .i64 0]) ∧ Grows w w' := by
  obtain ⟨e1, e2, e3, e4, e5⟩ := enc_back hv
  have hd := decode_yes (encW_wf hv) (decB_enc hv)
  rw [e1, e2, e3, e4, e5] at hd
  exact ⟨fun w => rencode_yes hv w, hd⟩
theorem sto_store {op j : Nat} (hv : validB op 0 7 j 0 = true) :
    (∀ w, Calls Tryd.prog 11 #[.agg #[.int .i64 op, .int .i64 0, .int .i64 7, .int .i64 j, .int .i64 0]] w fun r w' => r = .returned (.tuple #[.int .u32 (encW op 0 7 j 0), .int .i64 0]) ∧ Grows w w') ∧
    ∀ w, Calls Tryd.prog 12 #[.int .u32 (encW op 0 7 j 0)] w fun r w' => r = .returned (.tuple #[.agg #[.int .i64 op, .int .i64 0, .int .i64 7, .int .i64 j, .int .i64 0], .int .i64 0]) ∧ Grows w w' := by
  obtain ⟨e1, e2, e3, e4, e5⟩ := enc_back hv
  have hd := decode_yes (encW_wf hv) (decB_enc hv)
  rw [e1, e2, e3, e4, e5] at hd
  exact ⟨fun w => rencode_yes hv w, hd⟩
theorem val_load : (∀ j : Fin 16, validB 23 j.1 7 0 0 = true) ∧ (∀ j : Fin 16, validB 24 j.1 7 0 0 = true) ∧ (∀ j : Fin 16, validB 25 j.1 7 0 0 = true) ∧ (∀ j : Fin 16, validB 26 0 7 j.1 0 = true) ∧ (∀ j : Fin 16, validB 27 0 7 j.1 0 = true) ∧ (∀ j : Fin 16, validB 28 0 7 j.1 0 = true) := by decide
theorem RegsOk.mode {R : Array Value} (h : RegsOk R) : ∃ m, R[17]? = some (.int .i64 m) := by
  obtain ⟨x0, x1, x2, x3, x4, x5, x6, x7, x8, x9, x10, x11, x12, x13, x14, x15, pc, m, rfl⟩ := h
  exact ⟨m, rfl⟩
/-- What Finish leaves. -/
theorem finA_at {R : Array Value} (hR : RegsOk R) {f : Nat → Nat} (hN : RegN R f) {pc m : Int} (hm : R[17]? = some (.int .i64 m)) (wr : Bool) {j : Nat} (hj : j < 16) (y : Nat) :
    (∀ i, i < 16 → (finA R pc wr (j : Int) y)[i]? = some (.int .u64 (if wr = false ∧ j ≠ 0 ∧ i = j then y else f i : Nat))) ∧ (finA R pc wr (j : Int) y)[16]? = some (.int .u64 (IntKind.u64.wrap (pc + 4))) ∧ (finA R pc wr (j : Int) y)[17]? = some (.int .i64 m) := by
  have hs := hN.1
  unfold finA skipA
  by_cases hc : wr = true ∨ (j : Int) < 1 ∨ 15 < (j : Int)
  · rw [if_pos hc]
    refine ⟨fun i hi => ?_, by rw [Array.getElem?_setIfInBounds, if_pos rfl, if_pos (by omega)], by rw [Array.getElem?_setIfInBounds, if_neg (by omega)]; exact hm⟩
    rw [Array.getElem?_setIfInBounds, if_neg (by omega), (hN.2 i hi).2, if_neg]
    rintro ⟨h1, h2, h3⟩
    rcases hc with hc | hc | hc
    · rw [h1] at hc; cases hc
    · omega
    · omega
  · rw [if_neg hc, Int.toNat_natCast]
    have hw : wr = false := by cases wr; rfl; exact absurd (Or.inl rfl) hc
    have h0 : j ≠ 0 := fun h => hc (Or.inr (Or.inl (by omega)))
    refine ⟨fun i hi => ?_, by rw [Array.getElem?_setIfInBounds, if_neg (by omega), Array.getElem?_setIfInBounds, if_pos rfl, if_pos (by omega)], by rw [Array.getElem?_setIfInBounds, if_neg (by omega), Array.getElem?_setIfInBounds, if_neg (by omega)]; exact hm⟩
    rw [Array.getElem?_setIfInBounds]
    by_cases e : j = i
    · subst e
      rw [if_pos rfl, if_pos (by simp; omega), if_pos ⟨hw, h0, rfl⟩]
    · rw [if_neg e, Array.getElem?_setIfInBounds, if_neg (by omega), (hN.2 i hi).2, if_neg (fun h => e h.2.2.symm)]
set_option maxRecDepth 100000 in
set_option maxHeartbeats 4000000 in
theorem sto_0 {R : Array Value} (hR : RegsOk R) {f : Nat → Nat} (hN : RegN R f) {j : Nat} (op0 reg0 s : Int) (hj : bits .and .i64 reg0 15 = j) (hj16 : j < 16) (h1 : wrap64 (op0.tmod 6 + 6) = s) (h2 : s.tmod 6 = 0) (w : World) (hT : Widths w) :
    Calls Tryd.prog 4 #[.agg R, .int .i64 op0, .int .i64 reg0] w fun r w' => r = .returned (.bool true) ∧ Grows w w' := by
  obtain ⟨henc, hdc⟩ := sto_load (op := 23) (j := j) (val_load.1 ⟨j, hj16⟩)
  have hdec := fun W => edec_23 (R := R) hdc rfl rfl W
  clear hdc
  obtain ⟨pc, hpc⟩ := hR.at (i := 16) (by decide)
  obtain ⟨m, hm⟩ := hR.mode
  obtain ⟨hz1, hz2, hz3⟩ := finA_at hR hN (pc := pc) hm false hj16 (ldV 5 8)
  have hZok := finA_ok hR pc false (j : Int) (ldV 5 8)
  obtain ⟨Z, hZ⟩ : ∃ Z, Z = finA R pc false (j : Int) (ldV 5 8) := ⟨_, rfl⟩
  have hfin : ∀ W, Widths W → Calls Tryd.prog 7 #[.agg R, .agg #[.bool false, .int .i64 8, .int .i64 (j : Int), .int .u64 0], .int .u64 5] W fun r w' => r = .returned (.agg Z) ∧ Grows W w' := fun W hw => by rw [hZ]; exact finish_r hR hpc false 8 (j : Int) 0 5 W hw
  rw [← hZ] at hz1 hz2 hz3 hZok
  have HZ1 := Lib.hid hz1
  have HZ2 := Lib.hid hz2
  have HZ3 := Lib.hid hz3
  have HPC := Lib.hid hpc
  have HM := Lib.hid hm
  have HT := Lib.hid hT
  clear hpc hT hZ hz1 hz2 hz3 hm
  go_enter Tryd.func4, Tryd.ntmps4
  go_wp2_with fail
  obtain ⟨W, hW⟩ : ∃ W, W = (w.alloc (Obj.cells R 26)).alloc (Obj.cells #[.int .i64 23, .int .i64 (j : Int), .int .i64 7, .int .i64 0, .int .i64 0] 41) := ⟨_, rfl⟩
  obtain ⟨b3, hb3⟩ : ∃ b, b = w.heap.size := ⟨_, rfl⟩
  obtain ⟨b7, hb7⟩ : ∃ b, b = w.heap.size + 1 := ⟨_, rfl⟩
  rw [← hW, ← hb7, ← hb3]
  have hG0 : Grows w W := by rw [hW]; exact ((Grows.refl _).alloc _).alloc _
  have hR0 : Row W b3 R 26 := by rw [hW]; exact (Row.new_at _ _ _ hb3).grows ((Grows.refl _).alloc _)
  clear hW hb3 hb7
  have HI := Lib.hid (show (Tryd.prog.info? 26).map (·.size) = some R.size by rw [hR.size]; kernel_rfl)
  refine (henc W).mono ?_
  rintro _ w1 ⟨rfl, hg1⟩
  have HR1 := Lib.hid (hR0.grows hg1)
  have HG1 := Lib.hid (hG0.trans hg1)
  clear hR0 hG0 hg1 henc h1 h2 hj
  go_wp2_with (refine wpList_load_row (by rfl) 26 _ (by rfl) b3 (by rfl) 26 R (0, 0) _ (by exact HR1.out) Tryd.underlying26 rfl HI.out ?_)
  refine (hdec w1).mono ?_
  rintro _ w2 ⟨rfl, hg2⟩
  have HR2 := Lib.hid (HR1.out.grows hg2)
  have HG2 := Lib.hid (HG1.out.trans hg2)
  clear hdec hg2 HR1 HG1
  have cj : w2.cell? ⟨b3, j, none⟩ = some (.int .u64 (f j : Nat)) := by rw [HR2.out.cell]; exact (hN.2 j hj16).2
  have lr := HR2.out.lt
  have o1 : (j : Int) < 16 := by omega
  have HR3 := Lib.hid ((HR2.out.grows ((Grows.refl _).alloc (Obj.cells #[.bool false, .int .i64 8, .int .i64 (j : Int), .int .u64 0] 28))).grows ((Grows.refl _).alloc (Obj.cells #[.int .u64 18446744073709551615, .int .u64 4294967295, .int .u64 255] 23)))
  obtain ⟨fj, hfj⟩ : ∃ fj, fj = f j := ⟨_, rfl⟩
  rw [← hfj] at cj
  have HFJ := Lib.hid hfj
  clear hfj
  have H5 := Lib.hid (show ldV 5 8 = 5 by decide)
  by_cases hj0 : j = 0
  · have hjb : ((j : Int) == 0) = true := by simp; exact hj0
    have hjn : ((j : Int) != 0) = false := by simp; exact hj0
    have HJ0 : Hid (¬ j ≠ 0) := Lib.hid fun h => h hj0
    clear hj0
    go_wp2_with (refine wpList_load_row (by rfl) 26 _ (by rfl) b3 (by rfl) 26 R (0, 0) _ (by exact HR3.out) Tryd.underlying26 rfl HI.out ?_)
    refine (hfin _ (HT.out.grows (((HG2.out.alloc _).alloc _)))).mono ?_
    rintro _ w4 ⟨rfl, hg4⟩
    obtain ⟨b10, hb10⟩ : ∃ b, b = w2.heap.size := ⟨_, rfl⟩
    have HA4 := Lib.hid (((Row.new_at (b := b10) w2 #[.bool false, .int .i64 8, .int .i64 (j : Int), .int .u64 0] 28 hb10).grows ((Grows.refl _).alloc (Obj.cells #[.int .u64 18446744073709551615, .int .u64 4294967295, .int .u64 255] 23))).grows hg4)
    have HR4 := Lib.hid (HR3.out.grows hg4)
    have HG4 := Lib.hid (((HG2.out.alloc (Obj.cells #[.bool false, .int .i64 8, .int .i64 (j : Int), .int .u64 0] 28)).alloc (Obj.cells #[.int .u64 18446744073709551615, .int .u64 4294967295, .int .u64 255] 23)).trans hg4)
    rw [← hb10]
    have HZ0 := Lib.hid (Row.new w4 regs0.toArray 26)
    have HIZ := Lib.hid (show (Tryd.prog.info? 26).map (·.size) = some Z.size by rw [hZok.size]; kernel_rfl)
    have HSZ := Lib.hid (show regs0.toArray.size = Z.size by rw [hZok.size]; rfl)
    have HOZ := Lib.hid hZok.one
    obtain ⟨W5, hW5⟩ : ∃ W5, W5 = (w4.alloc (Obj.cells regs0.toArray 26)).setRow w4.heap.size Z := ⟨_, rfl⟩
    have HW5 := Lib.hid hW5.symm
    obtain ⟨b14, hb14⟩ : ∃ b, b = w4.heap.size := ⟨_, rfl⟩
    have HZ5 : Hid (Row W5 b14 Z 26) := Lib.hid (by rw [hW5, hb14]; exact row_setRow HZ0.out Z)
    have HR5 : Hid (Row W5 b3 R 26) := Lib.hid (by
      rw [hW5]
      exact row_setRowOther (HR4.out.grows ((Grows.refl _).alloc _)) (by have := HR4.out.lt; omega) Z)
    have HA5 : Hid (Row W5 b10 #[.bool false, .int .i64 8, .int .i64 (j : Int), .int .u64 0] 28) := Lib.hid (by
      rw [hW5]
      exact row_setRowOther (HA4.out.grows ((Grows.refl _).alloc _)) (by have := HA4.out.lt; omega) Z)
    have HG5 : Hid (Grows w W5) := Lib.hid (by
      rw [hW5]
      exact grows_setRow (HG4.out.alloc _) (by have := HG4.out.size; omega) Z)
    clear hW5 hg4 hb10 cj lr HG2 HR2 HR3 hfin
    go_wp2_with (refine wpList_store_row (by rfl) 26 _ _ (by rfl) w4.heap.size Z (by rfl) (by rfl) 26 _ (by exact HZ0.out) HIZ.out HSZ.out HOZ.out ?_; rw [HW5.out])
    rw [← hb14]
    clear HZ0 HW5 hb14 HR4 HA4 HG4
    go_loopw [15] (fun u wl => ∃ i : Nat, i ≤ 16 ∧ u = .int .i64 i ∧ Grows W5 wl) (fun u _ => (16 - intOf u).toNat)
    case atStart => exact ⟨0, by omega, rfl, Grows.refl _⟩
    case round =>
      obtain ⟨i, hi, rfl, hgr⟩ := hrel
      have hA := HA5.out.grows hgr
      have hRr := HR5.out.grows hgr
      have hZr := HZ5.out.grows hgr
      have HGR := Lib.hid hgr
      have la := hA.lt
      have lr := hRr.lt
      have lz := hZr.lt
      have a0 : wr.cell? ⟨b10, 0, none⟩ = some (.bool false) := hA.cell 0
      by_cases hi16 : i < 16
      · have o2 : (i : Int) < 16 := by omega
        have cr : wr.cell? ⟨b3, i, none⟩ = some (.int .u64 (f i : Nat)) := by rw [hRr.cell]; exact (hN.2 i hi16).2
        have cz := hZr.cell i
        rw [HZ1.out i hi16] at cz
        clear hA hRr hZr hgr
        rw [if_neg (by first | (intro h; exact HJ0.out h.2.1) | (intro h; cases h.1))] at cz
        generalize f i = fi at cr cz
        by_cases hij : i = j
        · have hijb : ((i : Int) == (j : Int)) = true := by simp; omega
          clear hij
          go_wp2_with fail
          refine wp_region_grow (by kernel_rfl) (by kernel_rfl) ?_
          repeat (go_big_quiet_step ((fail)))
          refine wpQuiet_nil ?_
          intro _ hw'
          obtain ⟨gg, rfl⟩ := hw'
          go_wp2_with fail
          go_roundw
          case measure => simp [intOf]; omega
          case rel => exact ⟨i + 1, by omega, by simp, HGR.out.grow _⟩
        · have hijb : ((i : Int) == (j : Int)) = false := by simp; omega
          clear hij
          go_wp2_with fail
          refine wp_region_grow (by kernel_rfl) (by kernel_rfl) ?_
          repeat (go_big_quiet_step ((fail)))
          refine wpQuiet_nil ?_
          intro _ hw'
          obtain ⟨gg, rfl⟩ := hw'
          go_wp2_with fail
          go_roundw
          case measure => simp [intOf]; omega
          case rel => exact ⟨i + 1, by omega, by simp, HGR.out.grow _⟩
      · have hi0 : i = 16 := by omega
        subst hi0
        have r16 : wr.cell? ⟨b3, 16, none⟩ = some (.int .u64 pc) := by rw [hRr.cell]; exact HPC.out
        have r17 : wr.cell? ⟨b3, 17, none⟩ = some (.int .i64 m) := by rw [hRr.cell]; exact HM.out
        have z16 : wr.cell? ⟨b14, 16, none⟩ = some (.int .u64 (IntKind.u64.wrap (pc + 4))) := by rw [hZr.cell]; exact HZ2.out
        have z17 : wr.cell? ⟨b14, 17, none⟩ = some (.int .i64 m) := by rw [hZr.cell]; exact HZ3.out
        have HGW := Lib.hid (HG5.out.trans hgr)
        rw [show ((16 : Nat) : Int) = 16 from rfl]
        clear hA hRr hZr hgr HGR
        go_wp2_with fail
        go_ret
        exact ⟨by simp, HGW.out⟩
  · have hjb : ((j : Int) == 0) = false := by simp; exact hj0
    have hjn : ((j : Int) != 0) = true := by simp; exact hj0
    have HJ0 : Hid (j ≠ 0) := Lib.hid hj0
    clear hj0
    go_wp2_with (refine wpList_load_row (by rfl) 26 _ (by rfl) b3 (by rfl) 26 R (0, 0) _ (by exact HR3.out) Tryd.underlying26 rfl HI.out ?_)
    refine (hfin _ (HT.out.grows (((HG2.out.alloc _).alloc _)))).mono ?_
    rintro _ w4 ⟨rfl, hg4⟩
    obtain ⟨b10, hb10⟩ : ∃ b, b = w2.heap.size := ⟨_, rfl⟩
    have HA4 := Lib.hid (((Row.new_at (b := b10) w2 #[.bool false, .int .i64 8, .int .i64 (j : Int), .int .u64 0] 28 hb10).grows ((Grows.refl _).alloc (Obj.cells #[.int .u64 18446744073709551615, .int .u64 4294967295, .int .u64 255] 23))).grows hg4)
    have HR4 := Lib.hid (HR3.out.grows hg4)
    have HG4 := Lib.hid (((HG2.out.alloc (Obj.cells #[.bool false, .int .i64 8, .int .i64 (j : Int), .int .u64 0] 28)).alloc (Obj.cells #[.int .u64 18446744073709551615, .int .u64 4294967295, .int .u64 255] 23)).trans hg4)
    rw [← hb10]
    have HZ0 := Lib.hid (Row.new w4 regs0.toArray 26)
    have HIZ := Lib.hid (show (Tryd.prog.info? 26).map (·.size) = some Z.size by rw [hZok.size]; kernel_rfl)
    have HSZ := Lib.hid (show regs0.toArray.size = Z.size by rw [hZok.size]; rfl)
    have HOZ := Lib.hid hZok.one
    obtain ⟨W5, hW5⟩ : ∃ W5, W5 = (w4.alloc (Obj.cells regs0.toArray 26)).setRow w4.heap.size Z := ⟨_, rfl⟩
    have HW5 := Lib.hid hW5.symm
    obtain ⟨b14, hb14⟩ : ∃ b, b = w4.heap.size := ⟨_, rfl⟩
    have HZ5 : Hid (Row W5 b14 Z 26) := Lib.hid (by rw [hW5, hb14]; exact row_setRow HZ0.out Z)
    have HR5 : Hid (Row W5 b3 R 26) := Lib.hid (by
      rw [hW5]
      exact row_setRowOther (HR4.out.grows ((Grows.refl _).alloc _)) (by have := HR4.out.lt; omega) Z)
    have HA5 : Hid (Row W5 b10 #[.bool false, .int .i64 8, .int .i64 (j : Int), .int .u64 0] 28) := Lib.hid (by
      rw [hW5]
      exact row_setRowOther (HA4.out.grows ((Grows.refl _).alloc _)) (by have := HA4.out.lt; omega) Z)
    have HG5 : Hid (Grows w W5) := Lib.hid (by
      rw [hW5]
      exact grows_setRow (HG4.out.alloc _) (by have := HG4.out.size; omega) Z)
    clear hW5 hg4 hb10 cj lr HG2 HR2 HR3 hfin
    go_wp2_with (refine wpList_store_row (by rfl) 26 _ _ (by rfl) w4.heap.size Z (by rfl) (by rfl) 26 _ (by exact HZ0.out) HIZ.out HSZ.out HOZ.out ?_; rw [HW5.out])
    rw [← hb14]
    clear HZ0 HW5 hb14 HR4 HA4 HG4
    go_loopw [15] (fun u wl => ∃ i : Nat, i ≤ 16 ∧ u = .int .i64 i ∧ Grows W5 wl) (fun u _ => (16 - intOf u).toNat)
    case atStart => exact ⟨0, by omega, rfl, Grows.refl _⟩
    case round =>
      obtain ⟨i, hi, rfl, hgr⟩ := hrel
      have hA := HA5.out.grows hgr
      have hRr := HR5.out.grows hgr
      have hZr := HZ5.out.grows hgr
      have HGR := Lib.hid hgr
      have la := hA.lt
      have lr := hRr.lt
      have lz := hZr.lt
      have a0 : wr.cell? ⟨b10, 0, none⟩ = some (.bool false) := hA.cell 0
      by_cases hi16 : i < 16
      · have o2 : (i : Int) < 16 := by omega
        have cr : wr.cell? ⟨b3, i, none⟩ = some (.int .u64 (f i : Nat)) := by rw [hRr.cell]; exact (hN.2 i hi16).2
        have cz := hZr.cell i
        rw [HZ1.out i hi16] at cz
        clear hA hRr hZr hgr
        by_cases hij : i = j
        · subst hij
          rw [if_pos ⟨trivial, HJ0.out, rfl⟩, H5.out, show (((5 : Nat)) : Int) = (5 : Int) from rfl] at cz
          have hijb : ((i : Int) == (i : Int)) = true := by simp
          clear cr
          go_wp2_with fail
          go_roundw
          case measure => simp [intOf]; omega
          case rel => exact ⟨i + 1, by omega, by simp, HGR.out⟩
        · have hijb : ((i : Int) == (j : Int)) = false := by simp; omega
          rw [if_neg (fun h => hij h.2.2)] at cz
          generalize f i = fi at cr cz
          clear hij
          go_wp2_with fail
          refine wp_region_grow (by kernel_rfl) (by kernel_rfl) ?_
          repeat (go_big_quiet_step ((fail)))
          refine wpQuiet_nil ?_
          intro _ hw'
          obtain ⟨gg, rfl⟩ := hw'
          go_wp2_with fail
          go_roundw
          case measure => simp [intOf]; omega
          case rel => exact ⟨i + 1, by omega, by simp, HGR.out.grow _⟩
      · have hi0 : i = 16 := by omega
        subst hi0
        have r16 : wr.cell? ⟨b3, 16, none⟩ = some (.int .u64 pc) := by rw [hRr.cell]; exact HPC.out
        have r17 : wr.cell? ⟨b3, 17, none⟩ = some (.int .i64 m) := by rw [hRr.cell]; exact HM.out
        have z16 : wr.cell? ⟨b14, 16, none⟩ = some (.int .u64 (IntKind.u64.wrap (pc + 4))) := by rw [hZr.cell]; exact HZ2.out
        have z17 : wr.cell? ⟨b14, 17, none⟩ = some (.int .i64 m) := by rw [hZr.cell]; exact HZ3.out
        have HGW := Lib.hid (HG5.out.trans hgr)
        rw [show ((16 : Nat) : Int) = 16 from rfl]
        clear hA hRr hZr hgr HGR
        go_wp2_with fail
        go_ret
        exact ⟨by simp, HGW.out⟩
set_option maxRecDepth 100000 in
set_option maxHeartbeats 4000000 in
theorem sto_1 {R : Array Value} (hR : RegsOk R) {f : Nat → Nat} (hN : RegN R f) {j : Nat} (op0 reg0 s : Int) (hj : bits .and .i64 reg0 15 = j) (hj16 : j < 16) (h1 : wrap64 (op0.tmod 6 + 6) = s) (h2 : s.tmod 6 = 1) (w : World) (hT : Widths w) :
    Calls Tryd.prog 4 #[.agg R, .int .i64 op0, .int .i64 reg0] w fun r w' => r = .returned (.bool true) ∧ Grows w w' := by
  obtain ⟨henc, hdc⟩ := sto_load (op := 24) (j := j) (val_load.2.1 ⟨j, hj16⟩)
  have hdec := fun W => edec_24 (R := R) hdc rfl rfl W
  clear hdc
  obtain ⟨pc, hpc⟩ := hR.at (i := 16) (by decide)
  obtain ⟨m, hm⟩ := hR.mode
  obtain ⟨hz1, hz2, hz3⟩ := finA_at hR hN (pc := pc) hm false hj16 (ldV 5 4)
  have hZok := finA_ok hR pc false (j : Int) (ldV 5 4)
  obtain ⟨Z, hZ⟩ : ∃ Z, Z = finA R pc false (j : Int) (ldV 5 4) := ⟨_, rfl⟩
  have hfin : ∀ W, Widths W → Calls Tryd.prog 7 #[.agg R, .agg #[.bool false, .int .i64 4, .int .i64 (j : Int), .int .u64 0], .int .u64 5] W fun r w' => r = .returned (.agg Z) ∧ Grows W w' := fun W hw => by rw [hZ]; exact finish_r hR hpc false 4 (j : Int) 0 5 W hw
  rw [← hZ] at hz1 hz2 hz3 hZok
  have HZ1 := Lib.hid hz1
  have HZ2 := Lib.hid hz2
  have HZ3 := Lib.hid hz3
  have HPC := Lib.hid hpc
  have HM := Lib.hid hm
  have HT := Lib.hid hT
  clear hpc hT hZ hz1 hz2 hz3 hm
  go_enter Tryd.func4, Tryd.ntmps4
  go_wp2_with fail
  obtain ⟨W, hW⟩ : ∃ W, W = (w.alloc (Obj.cells R 26)).alloc (Obj.cells #[.int .i64 24, .int .i64 (j : Int), .int .i64 7, .int .i64 0, .int .i64 0] 41) := ⟨_, rfl⟩
  obtain ⟨b3, hb3⟩ : ∃ b, b = w.heap.size := ⟨_, rfl⟩
  obtain ⟨b7, hb7⟩ : ∃ b, b = w.heap.size + 1 := ⟨_, rfl⟩
  rw [← hW, ← hb7, ← hb3]
  have hG0 : Grows w W := by rw [hW]; exact ((Grows.refl _).alloc _).alloc _
  have hR0 : Row W b3 R 26 := by rw [hW]; exact (Row.new_at _ _ _ hb3).grows ((Grows.refl _).alloc _)
  clear hW hb3 hb7
  have HI := Lib.hid (show (Tryd.prog.info? 26).map (·.size) = some R.size by rw [hR.size]; kernel_rfl)
  refine (henc W).mono ?_
  rintro _ w1 ⟨rfl, hg1⟩
  have HR1 := Lib.hid (hR0.grows hg1)
  have HG1 := Lib.hid (hG0.trans hg1)
  clear hR0 hG0 hg1 henc h1 h2 hj
  go_wp2_with (refine wpList_load_row (by rfl) 26 _ (by rfl) b3 (by rfl) 26 R (0, 0) _ (by exact HR1.out) Tryd.underlying26 rfl HI.out ?_)
  refine (hdec w1).mono ?_
  rintro _ w2 ⟨rfl, hg2⟩
  have HR2 := Lib.hid (HR1.out.grows hg2)
  have HG2 := Lib.hid (HG1.out.trans hg2)
  clear hdec hg2 HR1 HG1
  have cj : w2.cell? ⟨b3, j, none⟩ = some (.int .u64 (f j : Nat)) := by rw [HR2.out.cell]; exact (hN.2 j hj16).2
  have lr := HR2.out.lt
  have o1 : (j : Int) < 16 := by omega
  have HR3 := Lib.hid ((HR2.out.grows ((Grows.refl _).alloc (Obj.cells #[.bool false, .int .i64 4, .int .i64 (j : Int), .int .u64 0] 28))).grows ((Grows.refl _).alloc (Obj.cells #[.int .u64 18446744073709551615, .int .u64 4294967295, .int .u64 255] 23)))
  obtain ⟨fj, hfj⟩ : ∃ fj, fj = f j := ⟨_, rfl⟩
  rw [← hfj] at cj
  have HFJ := Lib.hid hfj
  clear hfj
  have H5 := Lib.hid (show ldV 5 4 = 5 by decide)
  by_cases hj0 : j = 0
  · have hjb : ((j : Int) == 0) = true := by simp; exact hj0
    have hjn : ((j : Int) != 0) = false := by simp; exact hj0
    have HJ0 : Hid (¬ j ≠ 0) := Lib.hid fun h => h hj0
    clear hj0
    go_wp2_with (refine wpList_load_row (by rfl) 26 _ (by rfl) b3 (by rfl) 26 R (0, 0) _ (by exact HR3.out) Tryd.underlying26 rfl HI.out ?_)
    refine (hfin _ (HT.out.grows (((HG2.out.alloc _).alloc _)))).mono ?_
    rintro _ w4 ⟨rfl, hg4⟩
    obtain ⟨b10, hb10⟩ : ∃ b, b = w2.heap.size := ⟨_, rfl⟩
    have HA4 := Lib.hid (((Row.new_at (b := b10) w2 #[.bool false, .int .i64 4, .int .i64 (j : Int), .int .u64 0] 28 hb10).grows ((Grows.refl _).alloc (Obj.cells #[.int .u64 18446744073709551615, .int .u64 4294967295, .int .u64 255] 23))).grows hg4)
    have HR4 := Lib.hid (HR3.out.grows hg4)
    have HG4 := Lib.hid (((HG2.out.alloc (Obj.cells #[.bool false, .int .i64 4, .int .i64 (j : Int), .int .u64 0] 28)).alloc (Obj.cells #[.int .u64 18446744073709551615, .int .u64 4294967295, .int .u64 255] 23)).trans hg4)
    rw [← hb10]
    have HZ0 := Lib.hid (Row.new w4 regs0.toArray 26)
    have HIZ := Lib.hid (show (Tryd.prog.info? 26).map (·.size) = some Z.size by rw [hZok.size]; kernel_rfl)
    have HSZ := Lib.hid (show regs0.toArray.size = Z.size by rw [hZok.size]; rfl)
    have HOZ := Lib.hid hZok.one
    obtain ⟨W5, hW5⟩ : ∃ W5, W5 = (w4.alloc (Obj.cells regs0.toArray 26)).setRow w4.heap.size Z := ⟨_, rfl⟩
    have HW5 := Lib.hid hW5.symm
    obtain ⟨b14, hb14⟩ : ∃ b, b = w4.heap.size := ⟨_, rfl⟩
    have HZ5 : Hid (Row W5 b14 Z 26) := Lib.hid (by rw [hW5, hb14]; exact row_setRow HZ0.out Z)
    have HR5 : Hid (Row W5 b3 R 26) := Lib.hid (by
      rw [hW5]
      exact row_setRowOther (HR4.out.grows ((Grows.refl _).alloc _)) (by have := HR4.out.lt; omega) Z)
    have HA5 : Hid (Row W5 b10 #[.bool false, .int .i64 4, .int .i64 (j : Int), .int .u64 0] 28) := Lib.hid (by
      rw [hW5]
      exact row_setRowOther (HA4.out.grows ((Grows.refl _).alloc _)) (by have := HA4.out.lt; omega) Z)
    have HG5 : Hid (Grows w W5) := Lib.hid (by
      rw [hW5]
      exact grows_setRow (HG4.out.alloc _) (by have := HG4.out.size; omega) Z)
    clear hW5 hg4 hb10 cj lr HG2 HR2 HR3 hfin
    go_wp2_with (refine wpList_store_row (by rfl) 26 _ _ (by rfl) w4.heap.size Z (by rfl) (by rfl) 26 _ (by exact HZ0.out) HIZ.out HSZ.out HOZ.out ?_; rw [HW5.out])
    rw [← hb14]
    clear HZ0 HW5 hb14 HR4 HA4 HG4
    go_loopw [15] (fun u wl => ∃ i : Nat, i ≤ 16 ∧ u = .int .i64 i ∧ Grows W5 wl) (fun u _ => (16 - intOf u).toNat)
    case atStart => exact ⟨0, by omega, rfl, Grows.refl _⟩
    case round =>
      obtain ⟨i, hi, rfl, hgr⟩ := hrel
      have hA := HA5.out.grows hgr
      have hRr := HR5.out.grows hgr
      have hZr := HZ5.out.grows hgr
      have HGR := Lib.hid hgr
      have la := hA.lt
      have lr := hRr.lt
      have lz := hZr.lt
      have a0 : wr.cell? ⟨b10, 0, none⟩ = some (.bool false) := hA.cell 0
      by_cases hi16 : i < 16
      · have o2 : (i : Int) < 16 := by omega
        have cr : wr.cell? ⟨b3, i, none⟩ = some (.int .u64 (f i : Nat)) := by rw [hRr.cell]; exact (hN.2 i hi16).2
        have cz := hZr.cell i
        rw [HZ1.out i hi16] at cz
        clear hA hRr hZr hgr
        rw [if_neg (by first | (intro h; exact HJ0.out h.2.1) | (intro h; cases h.1))] at cz
        generalize f i = fi at cr cz
        by_cases hij : i = j
        · have hijb : ((i : Int) == (j : Int)) = true := by simp; omega
          clear hij
          go_wp2_with fail
          refine wp_region_grow (by kernel_rfl) (by kernel_rfl) ?_
          repeat (go_big_quiet_step ((fail)))
          refine wpQuiet_nil ?_
          intro _ hw'
          obtain ⟨gg, rfl⟩ := hw'
          go_wp2_with fail
          go_roundw
          case measure => simp [intOf]; omega
          case rel => exact ⟨i + 1, by omega, by simp, HGR.out.grow _⟩
        · have hijb : ((i : Int) == (j : Int)) = false := by simp; omega
          clear hij
          go_wp2_with fail
          refine wp_region_grow (by kernel_rfl) (by kernel_rfl) ?_
          repeat (go_big_quiet_step ((fail)))
          refine wpQuiet_nil ?_
          intro _ hw'
          obtain ⟨gg, rfl⟩ := hw'
          go_wp2_with fail
          go_roundw
          case measure => simp [intOf]; omega
          case rel => exact ⟨i + 1, by omega, by simp, HGR.out.grow _⟩
      · have hi0 : i = 16 := by omega
        subst hi0
        have r16 : wr.cell? ⟨b3, 16, none⟩ = some (.int .u64 pc) := by rw [hRr.cell]; exact HPC.out
        have r17 : wr.cell? ⟨b3, 17, none⟩ = some (.int .i64 m) := by rw [hRr.cell]; exact HM.out
        have z16 : wr.cell? ⟨b14, 16, none⟩ = some (.int .u64 (IntKind.u64.wrap (pc + 4))) := by rw [hZr.cell]; exact HZ2.out
        have z17 : wr.cell? ⟨b14, 17, none⟩ = some (.int .i64 m) := by rw [hZr.cell]; exact HZ3.out
        have HGW := Lib.hid (HG5.out.trans hgr)
        rw [show ((16 : Nat) : Int) = 16 from rfl]
        clear hA hRr hZr hgr HGR
        go_wp2_with fail
        go_ret
        exact ⟨by simp, HGW.out⟩
  · have hjb : ((j : Int) == 0) = false := by simp; exact hj0
    have hjn : ((j : Int) != 0) = true := by simp; exact hj0
    have HJ0 : Hid (j ≠ 0) := Lib.hid hj0
    clear hj0
    go_wp2_with (refine wpList_load_row (by rfl) 26 _ (by rfl) b3 (by rfl) 26 R (0, 0) _ (by exact HR3.out) Tryd.underlying26 rfl HI.out ?_)
    refine (hfin _ (HT.out.grows (((HG2.out.alloc _).alloc _)))).mono ?_
    rintro _ w4 ⟨rfl, hg4⟩
    obtain ⟨b10, hb10⟩ : ∃ b, b = w2.heap.size := ⟨_, rfl⟩
    have HA4 := Lib.hid (((Row.new_at (b := b10) w2 #[.bool false, .int .i64 4, .int .i64 (j : Int), .int .u64 0] 28 hb10).grows ((Grows.refl _).alloc (Obj.cells #[.int .u64 18446744073709551615, .int .u64 4294967295, .int .u64 255] 23))).grows hg4)
    have HR4 := Lib.hid (HR3.out.grows hg4)
    have HG4 := Lib.hid (((HG2.out.alloc (Obj.cells #[.bool false, .int .i64 4, .int .i64 (j : Int), .int .u64 0] 28)).alloc (Obj.cells #[.int .u64 18446744073709551615, .int .u64 4294967295, .int .u64 255] 23)).trans hg4)
    rw [← hb10]
    have HZ0 := Lib.hid (Row.new w4 regs0.toArray 26)
    have HIZ := Lib.hid (show (Tryd.prog.info? 26).map (·.size) = some Z.size by rw [hZok.size]; kernel_rfl)
    have HSZ := Lib.hid (show regs0.toArray.size = Z.size by rw [hZok.size]; rfl)
    have HOZ := Lib.hid hZok.one
    obtain ⟨W5, hW5⟩ : ∃ W5, W5 = (w4.alloc (Obj.cells regs0.toArray 26)).setRow w4.heap.size Z := ⟨_, rfl⟩
    have HW5 := Lib.hid hW5.symm
    obtain ⟨b14, hb14⟩ : ∃ b, b = w4.heap.size := ⟨_, rfl⟩
    have HZ5 : Hid (Row W5 b14 Z 26) := Lib.hid (by rw [hW5, hb14]; exact row_setRow HZ0.out Z)
    have HR5 : Hid (Row W5 b3 R 26) := Lib.hid (by
      rw [hW5]
      exact row_setRowOther (HR4.out.grows ((Grows.refl _).alloc _)) (by have := HR4.out.lt; omega) Z)
    have HA5 : Hid (Row W5 b10 #[.bool false, .int .i64 4, .int .i64 (j : Int), .int .u64 0] 28) := Lib.hid (by
      rw [hW5]
      exact row_setRowOther (HA4.out.grows ((Grows.refl _).alloc _)) (by have := HA4.out.lt; omega) Z)
    have HG5 : Hid (Grows w W5) := Lib.hid (by
      rw [hW5]
      exact grows_setRow (HG4.out.alloc _) (by have := HG4.out.size; omega) Z)
    clear hW5 hg4 hb10 cj lr HG2 HR2 HR3 hfin
    go_wp2_with (refine wpList_store_row (by rfl) 26 _ _ (by rfl) w4.heap.size Z (by rfl) (by rfl) 26 _ (by exact HZ0.out) HIZ.out HSZ.out HOZ.out ?_; rw [HW5.out])
    rw [← hb14]
    clear HZ0 HW5 hb14 HR4 HA4 HG4
    go_loopw [15] (fun u wl => ∃ i : Nat, i ≤ 16 ∧ u = .int .i64 i ∧ Grows W5 wl) (fun u _ => (16 - intOf u).toNat)
    case atStart => exact ⟨0, by omega, rfl, Grows.refl _⟩
    case round =>
      obtain ⟨i, hi, rfl, hgr⟩ := hrel
      have hA := HA5.out.grows hgr
      have hRr := HR5.out.grows hgr
      have hZr := HZ5.out.grows hgr
      have HGR := Lib.hid hgr
      have la := hA.lt
      have lr := hRr.lt
      have lz := hZr.lt
      have a0 : wr.cell? ⟨b10, 0, none⟩ = some (.bool false) := hA.cell 0
      by_cases hi16 : i < 16
      · have o2 : (i : Int) < 16 := by omega
        have cr : wr.cell? ⟨b3, i, none⟩ = some (.int .u64 (f i : Nat)) := by rw [hRr.cell]; exact (hN.2 i hi16).2
        have cz := hZr.cell i
        rw [HZ1.out i hi16] at cz
        clear hA hRr hZr hgr
        by_cases hij : i = j
        · subst hij
          rw [if_pos ⟨trivial, HJ0.out, rfl⟩, H5.out, show (((5 : Nat)) : Int) = (5 : Int) from rfl] at cz
          have hijb : ((i : Int) == (i : Int)) = true := by simp
          clear cr
          go_wp2_with fail
          go_roundw
          case measure => simp [intOf]; omega
          case rel => exact ⟨i + 1, by omega, by simp, HGR.out⟩
        · have hijb : ((i : Int) == (j : Int)) = false := by simp; omega
          rw [if_neg (fun h => hij h.2.2)] at cz
          generalize f i = fi at cr cz
          clear hij
          go_wp2_with fail
          refine wp_region_grow (by kernel_rfl) (by kernel_rfl) ?_
          repeat (go_big_quiet_step ((fail)))
          refine wpQuiet_nil ?_
          intro _ hw'
          obtain ⟨gg, rfl⟩ := hw'
          go_wp2_with fail
          go_roundw
          case measure => simp [intOf]; omega
          case rel => exact ⟨i + 1, by omega, by simp, HGR.out.grow _⟩
      · have hi0 : i = 16 := by omega
        subst hi0
        have r16 : wr.cell? ⟨b3, 16, none⟩ = some (.int .u64 pc) := by rw [hRr.cell]; exact HPC.out
        have r17 : wr.cell? ⟨b3, 17, none⟩ = some (.int .i64 m) := by rw [hRr.cell]; exact HM.out
        have z16 : wr.cell? ⟨b14, 16, none⟩ = some (.int .u64 (IntKind.u64.wrap (pc + 4))) := by rw [hZr.cell]; exact HZ2.out
        have z17 : wr.cell? ⟨b14, 17, none⟩ = some (.int .i64 m) := by rw [hZr.cell]; exact HZ3.out
        have HGW := Lib.hid (HG5.out.trans hgr)
        rw [show ((16 : Nat) : Int) = 16 from rfl]
        clear hA hRr hZr hgr HGR
        go_wp2_with fail
        go_ret
        exact ⟨by simp, HGW.out⟩
set_option maxRecDepth 100000 in
set_option maxHeartbeats 4000000 in
theorem sto_2 {R : Array Value} (hR : RegsOk R) {f : Nat → Nat} (hN : RegN R f) {j : Nat} (op0 reg0 s : Int) (hj : bits .and .i64 reg0 15 = j) (hj16 : j < 16) (h1 : wrap64 (op0.tmod 6 + 6) = s) (h2 : s.tmod 6 = 2) (w : World) (hT : Widths w) :
    Calls Tryd.prog 4 #[.agg R, .int .i64 op0, .int .i64 reg0] w fun r w' => r = .returned (.bool true) ∧ Grows w w' := by
  obtain ⟨henc, hdc⟩ := sto_load (op := 25) (j := j) (val_load.2.2.1 ⟨j, hj16⟩)
  have hdec := fun W => edec_25 (R := R) hdc rfl rfl W
  clear hdc
  obtain ⟨pc, hpc⟩ := hR.at (i := 16) (by decide)
  obtain ⟨m, hm⟩ := hR.mode
  obtain ⟨hz1, hz2, hz3⟩ := finA_at hR hN (pc := pc) hm false hj16 (ldV 5 1)
  have hZok := finA_ok hR pc false (j : Int) (ldV 5 1)
  obtain ⟨Z, hZ⟩ : ∃ Z, Z = finA R pc false (j : Int) (ldV 5 1) := ⟨_, rfl⟩
  have hfin : ∀ W, Widths W → Calls Tryd.prog 7 #[.agg R, .agg #[.bool false, .int .i64 1, .int .i64 (j : Int), .int .u64 0], .int .u64 5] W fun r w' => r = .returned (.agg Z) ∧ Grows W w' := fun W hw => by rw [hZ]; exact finish_r hR hpc false 1 (j : Int) 0 5 W hw
  rw [← hZ] at hz1 hz2 hz3 hZok
  have HZ1 := Lib.hid hz1
  have HZ2 := Lib.hid hz2
  have HZ3 := Lib.hid hz3
  have HPC := Lib.hid hpc
  have HM := Lib.hid hm
  have HT := Lib.hid hT
  clear hpc hT hZ hz1 hz2 hz3 hm
  go_enter Tryd.func4, Tryd.ntmps4
  go_wp2_with fail
  obtain ⟨W, hW⟩ : ∃ W, W = (w.alloc (Obj.cells R 26)).alloc (Obj.cells #[.int .i64 25, .int .i64 (j : Int), .int .i64 7, .int .i64 0, .int .i64 0] 41) := ⟨_, rfl⟩
  obtain ⟨b3, hb3⟩ : ∃ b, b = w.heap.size := ⟨_, rfl⟩
  obtain ⟨b7, hb7⟩ : ∃ b, b = w.heap.size + 1 := ⟨_, rfl⟩
  rw [← hW, ← hb7, ← hb3]
  have hG0 : Grows w W := by rw [hW]; exact ((Grows.refl _).alloc _).alloc _
  have hR0 : Row W b3 R 26 := by rw [hW]; exact (Row.new_at _ _ _ hb3).grows ((Grows.refl _).alloc _)
  clear hW hb3 hb7
  have HI := Lib.hid (show (Tryd.prog.info? 26).map (·.size) = some R.size by rw [hR.size]; kernel_rfl)
  refine (henc W).mono ?_
  rintro _ w1 ⟨rfl, hg1⟩
  have HR1 := Lib.hid (hR0.grows hg1)
  have HG1 := Lib.hid (hG0.trans hg1)
  clear hR0 hG0 hg1 henc h1 h2 hj
  go_wp2_with (refine wpList_load_row (by rfl) 26 _ (by rfl) b3 (by rfl) 26 R (0, 0) _ (by exact HR1.out) Tryd.underlying26 rfl HI.out ?_)
  refine (hdec w1).mono ?_
  rintro _ w2 ⟨rfl, hg2⟩
  have HR2 := Lib.hid (HR1.out.grows hg2)
  have HG2 := Lib.hid (HG1.out.trans hg2)
  clear hdec hg2 HR1 HG1
  have cj : w2.cell? ⟨b3, j, none⟩ = some (.int .u64 (f j : Nat)) := by rw [HR2.out.cell]; exact (hN.2 j hj16).2
  have lr := HR2.out.lt
  have o1 : (j : Int) < 16 := by omega
  have HR3 := Lib.hid ((HR2.out.grows ((Grows.refl _).alloc (Obj.cells #[.bool false, .int .i64 1, .int .i64 (j : Int), .int .u64 0] 28))).grows ((Grows.refl _).alloc (Obj.cells #[.int .u64 18446744073709551615, .int .u64 4294967295, .int .u64 255] 23)))
  obtain ⟨fj, hfj⟩ : ∃ fj, fj = f j := ⟨_, rfl⟩
  rw [← hfj] at cj
  have HFJ := Lib.hid hfj
  clear hfj
  have H5 := Lib.hid (show ldV 5 1 = 5 by decide)
  by_cases hj0 : j = 0
  · have hjb : ((j : Int) == 0) = true := by simp; exact hj0
    have hjn : ((j : Int) != 0) = false := by simp; exact hj0
    have HJ0 : Hid (¬ j ≠ 0) := Lib.hid fun h => h hj0
    clear hj0
    go_wp2_with (refine wpList_load_row (by rfl) 26 _ (by rfl) b3 (by rfl) 26 R (0, 0) _ (by exact HR3.out) Tryd.underlying26 rfl HI.out ?_)
    refine (hfin _ (HT.out.grows (((HG2.out.alloc _).alloc _)))).mono ?_
    rintro _ w4 ⟨rfl, hg4⟩
    obtain ⟨b10, hb10⟩ : ∃ b, b = w2.heap.size := ⟨_, rfl⟩
    have HA4 := Lib.hid (((Row.new_at (b := b10) w2 #[.bool false, .int .i64 1, .int .i64 (j : Int), .int .u64 0] 28 hb10).grows ((Grows.refl _).alloc (Obj.cells #[.int .u64 18446744073709551615, .int .u64 4294967295, .int .u64 255] 23))).grows hg4)
    have HR4 := Lib.hid (HR3.out.grows hg4)
    have HG4 := Lib.hid (((HG2.out.alloc (Obj.cells #[.bool false, .int .i64 1, .int .i64 (j : Int), .int .u64 0] 28)).alloc (Obj.cells #[.int .u64 18446744073709551615, .int .u64 4294967295, .int .u64 255] 23)).trans hg4)
    rw [← hb10]
    have HZ0 := Lib.hid (Row.new w4 regs0.toArray 26)
    have HIZ := Lib.hid (show (Tryd.prog.info? 26).map (·.size) = some Z.size by rw [hZok.size]; kernel_rfl)
    have HSZ := Lib.hid (show regs0.toArray.size = Z.size by rw [hZok.size]; rfl)
    have HOZ := Lib.hid hZok.one
    obtain ⟨W5, hW5⟩ : ∃ W5, W5 = (w4.alloc (Obj.cells regs0.toArray 26)).setRow w4.heap.size Z := ⟨_, rfl⟩
    have HW5 := Lib.hid hW5.symm
    obtain ⟨b14, hb14⟩ : ∃ b, b = w4.heap.size := ⟨_, rfl⟩
    have HZ5 : Hid (Row W5 b14 Z 26) := Lib.hid (by rw [hW5, hb14]; exact row_setRow HZ0.out Z)
    have HR5 : Hid (Row W5 b3 R 26) := Lib.hid (by
      rw [hW5]
      exact row_setRowOther (HR4.out.grows ((Grows.refl _).alloc _)) (by have := HR4.out.lt; omega) Z)
    have HA5 : Hid (Row W5 b10 #[.bool false, .int .i64 1, .int .i64 (j : Int), .int .u64 0] 28) := Lib.hid (by
      rw [hW5]
      exact row_setRowOther (HA4.out.grows ((Grows.refl _).alloc _)) (by have := HA4.out.lt; omega) Z)
    have HG5 : Hid (Grows w W5) := Lib.hid (by
      rw [hW5]
      exact grows_setRow (HG4.out.alloc _) (by have := HG4.out.size; omega) Z)
    clear hW5 hg4 hb10 cj lr HG2 HR2 HR3 hfin
    go_wp2_with (refine wpList_store_row (by rfl) 26 _ _ (by rfl) w4.heap.size Z (by rfl) (by rfl) 26 _ (by exact HZ0.out) HIZ.out HSZ.out HOZ.out ?_; rw [HW5.out])
    rw [← hb14]
    clear HZ0 HW5 hb14 HR4 HA4 HG4
    go_loopw [15] (fun u wl => ∃ i : Nat, i ≤ 16 ∧ u = .int .i64 i ∧ Grows W5 wl) (fun u _ => (16 - intOf u).toNat)
    case atStart => exact ⟨0, by omega, rfl, Grows.refl _⟩
    case round =>
      obtain ⟨i, hi, rfl, hgr⟩ := hrel
      have hA := HA5.out.grows hgr
      have hRr := HR5.out.grows hgr
      have hZr := HZ5.out.grows hgr
      have HGR := Lib.hid hgr
      have la := hA.lt
      have lr := hRr.lt
      have lz := hZr.lt
      have a0 : wr.cell? ⟨b10, 0, none⟩ = some (.bool false) := hA.cell 0
      by_cases hi16 : i < 16
      · have o2 : (i : Int) < 16 := by omega
        have cr : wr.cell? ⟨b3, i, none⟩ = some (.int .u64 (f i : Nat)) := by rw [hRr.cell]; exact (hN.2 i hi16).2
        have cz := hZr.cell i
        rw [HZ1.out i hi16] at cz
        clear hA hRr hZr hgr
        rw [if_neg (by first | (intro h; exact HJ0.out h.2.1) | (intro h; cases h.1))] at cz
        generalize f i = fi at cr cz
        by_cases hij : i = j
        · have hijb : ((i : Int) == (j : Int)) = true := by simp; omega
          clear hij
          go_wp2_with fail
          refine wp_region_grow (by kernel_rfl) (by kernel_rfl) ?_
          repeat (go_big_quiet_step ((fail)))
          refine wpQuiet_nil ?_
          intro _ hw'
          obtain ⟨gg, rfl⟩ := hw'
          go_wp2_with fail
          go_roundw
          case measure => simp [intOf]; omega
          case rel => exact ⟨i + 1, by omega, by simp, HGR.out.grow _⟩
        · have hijb : ((i : Int) == (j : Int)) = false := by simp; omega
          clear hij
          go_wp2_with fail
          refine wp_region_grow (by kernel_rfl) (by kernel_rfl) ?_
          repeat (go_big_quiet_step ((fail)))
          refine wpQuiet_nil ?_
          intro _ hw'
          obtain ⟨gg, rfl⟩ := hw'
          go_wp2_with fail
          go_roundw
          case measure => simp [intOf]; omega
          case rel => exact ⟨i + 1, by omega, by simp, HGR.out.grow _⟩
      · have hi0 : i = 16 := by omega
        subst hi0
        have r16 : wr.cell? ⟨b3, 16, none⟩ = some (.int .u64 pc) := by rw [hRr.cell]; exact HPC.out
        have r17 : wr.cell? ⟨b3, 17, none⟩ = some (.int .i64 m) := by rw [hRr.cell]; exact HM.out
        have z16 : wr.cell? ⟨b14, 16, none⟩ = some (.int .u64 (IntKind.u64.wrap (pc + 4))) := by rw [hZr.cell]; exact HZ2.out
        have z17 : wr.cell? ⟨b14, 17, none⟩ = some (.int .i64 m) := by rw [hZr.cell]; exact HZ3.out
        have HGW := Lib.hid (HG5.out.trans hgr)
        rw [show ((16 : Nat) : Int) = 16 from rfl]
        clear hA hRr hZr hgr HGR
        go_wp2_with fail
        go_ret
        exact ⟨by simp, HGW.out⟩
  · have hjb : ((j : Int) == 0) = false := by simp; exact hj0
    have hjn : ((j : Int) != 0) = true := by simp; exact hj0
    have HJ0 : Hid (j ≠ 0) := Lib.hid hj0
    clear hj0
    go_wp2_with (refine wpList_load_row (by rfl) 26 _ (by rfl) b3 (by rfl) 26 R (0, 0) _ (by exact HR3.out) Tryd.underlying26 rfl HI.out ?_)
    refine (hfin _ (HT.out.grows (((HG2.out.alloc _).alloc _)))).mono ?_
    rintro _ w4 ⟨rfl, hg4⟩
    obtain ⟨b10, hb10⟩ : ∃ b, b = w2.heap.size := ⟨_, rfl⟩
    have HA4 := Lib.hid (((Row.new_at (b := b10) w2 #[.bool false, .int .i64 1, .int .i64 (j : Int), .int .u64 0] 28 hb10).grows ((Grows.refl _).alloc (Obj.cells #[.int .u64 18446744073709551615, .int .u64 4294967295, .int .u64 255] 23))).grows hg4)
    have HR4 := Lib.hid (HR3.out.grows hg4)
    have HG4 := Lib.hid (((HG2.out.alloc (Obj.cells #[.bool false, .int .i64 1, .int .i64 (j : Int), .int .u64 0] 28)).alloc (Obj.cells #[.int .u64 18446744073709551615, .int .u64 4294967295, .int .u64 255] 23)).trans hg4)
    rw [← hb10]
    have HZ0 := Lib.hid (Row.new w4 regs0.toArray 26)
    have HIZ := Lib.hid (show (Tryd.prog.info? 26).map (·.size) = some Z.size by rw [hZok.size]; kernel_rfl)
    have HSZ := Lib.hid (show regs0.toArray.size = Z.size by rw [hZok.size]; rfl)
    have HOZ := Lib.hid hZok.one
    obtain ⟨W5, hW5⟩ : ∃ W5, W5 = (w4.alloc (Obj.cells regs0.toArray 26)).setRow w4.heap.size Z := ⟨_, rfl⟩
    have HW5 := Lib.hid hW5.symm
    obtain ⟨b14, hb14⟩ : ∃ b, b = w4.heap.size := ⟨_, rfl⟩
    have HZ5 : Hid (Row W5 b14 Z 26) := Lib.hid (by rw [hW5, hb14]; exact row_setRow HZ0.out Z)
    have HR5 : Hid (Row W5 b3 R 26) := Lib.hid (by
      rw [hW5]
      exact row_setRowOther (HR4.out.grows ((Grows.refl _).alloc _)) (by have := HR4.out.lt; omega) Z)
    have HA5 : Hid (Row W5 b10 #[.bool false, .int .i64 1, .int .i64 (j : Int), .int .u64 0] 28) := Lib.hid (by
      rw [hW5]
      exact row_setRowOther (HA4.out.grows ((Grows.refl _).alloc _)) (by have := HA4.out.lt; omega) Z)
    have HG5 : Hid (Grows w W5) := Lib.hid (by
      rw [hW5]
      exact grows_setRow (HG4.out.alloc _) (by have := HG4.out.size; omega) Z)
    clear hW5 hg4 hb10 cj lr HG2 HR2 HR3 hfin
    go_wp2_with (refine wpList_store_row (by rfl) 26 _ _ (by rfl) w4.heap.size Z (by rfl) (by rfl) 26 _ (by exact HZ0.out) HIZ.out HSZ.out HOZ.out ?_; rw [HW5.out])
    rw [← hb14]
    clear HZ0 HW5 hb14 HR4 HA4 HG4
    go_loopw [15] (fun u wl => ∃ i : Nat, i ≤ 16 ∧ u = .int .i64 i ∧ Grows W5 wl) (fun u _ => (16 - intOf u).toNat)
    case atStart => exact ⟨0, by omega, rfl, Grows.refl _⟩
    case round =>
      obtain ⟨i, hi, rfl, hgr⟩ := hrel
      have hA := HA5.out.grows hgr
      have hRr := HR5.out.grows hgr
      have hZr := HZ5.out.grows hgr
      have HGR := Lib.hid hgr
      have la := hA.lt
      have lr := hRr.lt
      have lz := hZr.lt
      have a0 : wr.cell? ⟨b10, 0, none⟩ = some (.bool false) := hA.cell 0
      by_cases hi16 : i < 16
      · have o2 : (i : Int) < 16 := by omega
        have cr : wr.cell? ⟨b3, i, none⟩ = some (.int .u64 (f i : Nat)) := by rw [hRr.cell]; exact (hN.2 i hi16).2
        have cz := hZr.cell i
        rw [HZ1.out i hi16] at cz
        clear hA hRr hZr hgr
        by_cases hij : i = j
        · subst hij
          rw [if_pos ⟨trivial, HJ0.out, rfl⟩, H5.out, show (((5 : Nat)) : Int) = (5 : Int) from rfl] at cz
          have hijb : ((i : Int) == (i : Int)) = true := by simp
          clear cr
          go_wp2_with fail
          go_roundw
          case measure => simp [intOf]; omega
          case rel => exact ⟨i + 1, by omega, by simp, HGR.out⟩
        · have hijb : ((i : Int) == (j : Int)) = false := by simp; omega
          rw [if_neg (fun h => hij h.2.2)] at cz
          generalize f i = fi at cr cz
          clear hij
          go_wp2_with fail
          refine wp_region_grow (by kernel_rfl) (by kernel_rfl) ?_
          repeat (go_big_quiet_step ((fail)))
          refine wpQuiet_nil ?_
          intro _ hw'
          obtain ⟨gg, rfl⟩ := hw'
          go_wp2_with fail
          go_roundw
          case measure => simp [intOf]; omega
          case rel => exact ⟨i + 1, by omega, by simp, HGR.out.grow _⟩
      · have hi0 : i = 16 := by omega
        subst hi0
        have r16 : wr.cell? ⟨b3, 16, none⟩ = some (.int .u64 pc) := by rw [hRr.cell]; exact HPC.out
        have r17 : wr.cell? ⟨b3, 17, none⟩ = some (.int .i64 m) := by rw [hRr.cell]; exact HM.out
        have z16 : wr.cell? ⟨b14, 16, none⟩ = some (.int .u64 (IntKind.u64.wrap (pc + 4))) := by rw [hZr.cell]; exact HZ2.out
        have z17 : wr.cell? ⟨b14, 17, none⟩ = some (.int .i64 m) := by rw [hZr.cell]; exact HZ3.out
        have HGW := Lib.hid (HG5.out.trans hgr)
        rw [show ((16 : Nat) : Int) = 16 from rfl]
        clear hA hRr hZr hgr HGR
        go_wp2_with fail
        go_ret
        exact ⟨by simp, HGW.out⟩
end Go.Proofs.YtjbgamifkgeodaaDoor
