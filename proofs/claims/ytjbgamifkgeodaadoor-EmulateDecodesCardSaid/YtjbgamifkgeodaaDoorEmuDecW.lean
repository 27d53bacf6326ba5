/- The walk of EmulateDecodes. -/
import Derived.Test.YtjbgamifkgeodaaDoorEmuF
import Derived.Test.YtjbgamifkgeodaaDoorEmuRD
namespace Go.Proofs.YtjbgamifkgeodaaDoor
open Go Go.RowKit
set_option linter.unusedSimpArgs false
set_option linter.unusedVariables false
theorem RegN.ok {R : Array Value} {f : Nat → Nat} (h : RegN R f) : True := trivial
/-- Both decode alike. -/
theorem dec_both {x : Int} (hx : 0 ≤ x ∧ x < 4294967296) {R : Array Value} {f : Nat → Nat} (hR : RegN R f) : ∃ (wr : Bool) (wid reg : Int) (val : Nat) (E : Int),
    (∀ w, Calls Tryd.prog 5 #[.int .u32 x, .agg R] w fun r w' => r = .returned (.tuple #[.agg #[.bool wr, .int .i64 wid, .int .i64 reg, .int .u64 (val : Nat)], .int .i64 E]) ∧ Grows w w') ∧
    (∀ w, Calls Tryd.prog 6 #[.int .u32 x, .agg R] w fun r w' => r = .returned (.tuple #[.agg #[.bool wr, .int .i64 wid, .int .i64 reg, .int .u64 (val : Nat)], .int .i64 E]) ∧ Grows w w') := by
  cases h : decB x
  · exact ⟨false, 0, 0, 0, 10, fun w => edec_no (decode_no hx h) (by decide) (Or.inl (by decide)) w, fun w => rdec_no (rdecode_no hx h) (Or.inl (by decide)) w⟩
  · have hd := decode_yes hx h
    have hr := rdecode_yes hx h
    have hv : validB (dOp x) (dRd x) (dR1 x) (dR2 x) (dV x) = true := by
      unfold decB at h; rw [Bool.and_eq_true] at h; exact h.1
    obtain ⟨j, hj, hj16⟩ : ∃ j : Nat, dR2 x = j ∧ j < 16 := by
      have hb := validB_bounds hv
      exact ⟨(dR2 x).toNat, by omega, by omega⟩
    by_cases h23 : dOp x = 23
    · exact ⟨_, _, _, 0, _, fun w => edec_23 hd h23 rfl w, fun w => rdec_23 hr h23 rfl w⟩
    by_cases h24 : dOp x = 24
    · exact ⟨_, _, _, 0, _, fun w => edec_24 hd h24 rfl w, fun w => rdec_24 hr h24 rfl w⟩
    by_cases h25 : dOp x = 25
    · exact ⟨_, _, _, 0, _, fun w => edec_25 hd h25 rfl w, fun w => rdec_25 hr h25 rfl w⟩
    by_cases h26 : dOp x = 26
    · exact ⟨_, _, _, _, _, fun w => edec_26 hd hR hj hj16 h26 rfl w, fun w => rdec_26 hr hR hj hj16 h26 rfl w⟩
    by_cases h27 : dOp x = 27
    · exact ⟨_, _, _, _, _, fun w => edec_27 hd hR hj hj16 h27 rfl w, fun w => rdec_27 hr hR hj hj16 h27 rfl w⟩
    by_cases h28 : dOp x = 28
    · exact ⟨_, _, _, _, _, fun w => edec_28 hd hR hj hj16 h28 rfl w, fun w => rdec_28 hr hR hj hj16 h28 rfl w⟩
    · have ho : dOp x < 23 ∨ 28 < dOp x := by omega
      exact ⟨_, _, _, 0, _, fun w => edec_no hd (wf_field x 26 6) (Or.inr (wdF_none ho)) w, fun w => rdec_no hr (Or.inr ho) w⟩
theorem eql_regs {R : Array Value} (h : RegsOk R) (w : World) : (binOp .eql 26 (.agg R) (.agg R)).run Tryd.prog w = .ok (.bool true) w := by
  obtain ⟨x0, x1, x2, x3, x4, x5, x6, x7, x8, x9, x10, x11, x12, x13, x14, x15, pc, m, rfl⟩ := h
  have := eq16 x0 x1 x2 x3 x4 x5 x6 x7 x8 x9 x10 x11 x12 x13 x14 x15
  simp [go_sem, this]
theorem neq_acc (wr : Bool) (wid reg val : Int) (w : World) : (binOp .neq 32 (.agg #[.bool wr, .int .i64 wid, .int .i64 reg, .int .u64 val]) (.agg #[.bool wr, .int .i64 wid, .int .i64 reg, .int .u64 val])).run Tryd.prog w = .ok (.bool false) w := by
  simp [go_sem]
set_option maxRecDepth 100000 in
set_option maxHeartbeats 4000000 in
theorem decodes_law {x : Int} (hx : 0 ≤ x ∧ x < 4294967296) {R : Array Value} (hR : RegsOk R) {f : Nat → Nat} (hN : RegN R f) (V : Nat) (hV : V < 18446744073709551616) (w : World) (hT : Widths w) :
    Calls Tryd.prog 3 #[.int .u32 x, .agg R, .int .u64 V] w fun r w' => r = .returned (.bool true) ∧ Grows w w' := by
  obtain ⟨pc, hpc⟩ := hR.at (i := 16) (by decide)
  have HPC := Lib.hid hpc
  obtain ⟨ws, wid, reg, val, E, hde, hre⟩ := dec_both hx hN
  clear hpc hN
  have qn := neq_acc ws wid reg (val : Int)
  go_enter Tryd.func3, Tryd.ntmps3
  iterate 8 (first | go_values | go_skip | go_guarded | go_step | go_upon | go_back)
  obtain ⟨W, hW⟩ : ∃ W, W = w.alloc (Obj.cells R 26) := ⟨_, rfl⟩
  obtain ⟨b1, hb1⟩ : ∃ b, b = w.heap.size := ⟨_, rfl⟩
  rw [← hW, ← hb1]
  have hR0 : Row W b1 R 26 := by rw [hW]; exact Row.new_at _ _ _ hb1
  have HG0 := Lib.hid (show Grows w W by rw [hW]; exact (Grows.refl _).alloc _)
  have HI := Lib.hid (show (Tryd.prog.info? 26).map (·.size) = some R.size by rw [hR.size]; kernel_rfl)
  have HT := Lib.hid hT
  clear hW hb1 hT
  go_wp2_with (refine wpList_load_row (by rfl) 26 _ (by rfl) b1 (by rfl) 26 R (0, 0) _ (by exact hR0) Tryd.underlying26 rfl HI.out ?_)
  refine (hde _).mono ?_
  rintro _ w1 ⟨rfl, hg1⟩
  have HR1 := Lib.hid ((hR0.grows hg1).grows ((Grows.refl _).alloc (Obj.cells #[.bool ws, .int .i64 wid, .int .i64 reg, .int .u64 val] 28)))
  clear hde
  go_wp2_with (refine wpList_load_row (by rfl) 26 _ (by rfl) b1 (by rfl) 26 R (0, 0) _ (by exact HR1.out) Tryd.underlying26 rfl HI.out ?_)
  refine (hre _).mono ?_
  rintro _ w2 ⟨rfl, hg2⟩
  clear hre
  obtain ⟨b7, hb7⟩ : ∃ b, b = w1.heap.size := ⟨_, rfl⟩
  have HA2 := Lib.hid ((Row.new_at (b := b7) w1 #[.bool ws, .int .i64 wid, .int .i64 reg, .int .u64 val] 28 hb7).grows hg2)
  have HR2 := Lib.hid (HR1.out.grows hg2)
  have HG2 := Lib.hid (((HG0.out.trans hg1).alloc (Obj.cells #[.bool ws, .int .i64 wid, .int .i64 reg, .int .u64 val] 28)).trans hg2)
  have a0 : w2.cell? ⟨b7, 0, none⟩ = some (.bool ws) := HA2.out.cell 0
  have a1 : w2.cell? ⟨b7, 1, none⟩ = some (.int .i64 wid) := HA2.out.cell 1
  have a2 : w2.cell? ⟨b7, 2, none⟩ = some (.int .i64 reg) := HA2.out.cell 2
  have a3 : w2.cell? ⟨b7, 3, none⟩ = some (.int .u64 val) := HA2.out.cell 3
  have la := HA2.out.lt
  rw [← hb7]
  clear hb7 hg1 hg2 HR1 HG0 hR0
  go_wp2_with fail
  obtain ⟨W3, hW3⟩ : ∃ W3, W3 = w2.alloc (Obj.cells #[.bool ws, .int .i64 wid, .int .i64 reg, .int .u64 val] 32) := ⟨_, rfl⟩
  obtain ⟨b9, hb9⟩ : ∃ b, b = w2.heap.size := ⟨_, rfl⟩
  rw [← hW3, ← hb9]
  have hg3 : Grows w2 W3 := by rw [hW3]; exact (Grows.refl _).alloc _
  have HR3 := Lib.hid (HR2.out.grows hg3)
  have HA3 := Lib.hid (HA2.out.grows hg3)
  have HB3 : Hid (Row W3 b9 #[.bool ws, .int .i64 wid, .int .i64 reg, .int .u64 val] 32) := Lib.hid (by rw [hW3]; exact Row.new_at _ _ _ hb9)
  have HG3 := Lib.hid (HG2.out.trans hg3)
  have hone : bits .and .u64 (V : Int) 1 = 0 ∨ bits .and .u64 (V : Int) 1 = 1 := by
    have := and_mask_u64 (x := (V : Int)) (n := 1) (by omega) (by omega) (by omega)
    simp at this
    omega
  clear hW3 hb9 hg3 HR2 HA2 HG2 a0 a1 a2 a3 la qn
  go_loopw [11] (fun u wl => ∃ k : Nat, k ≤ 18 ∧ u = .int .i64 ((k : Int) - 1) ∧ Grows W3 wl) (fun u _ => (17 - intOf u).toNat)
  case atStart => exact ⟨0, by omega, rfl, Grows.refl _⟩
  case round =>
    obtain ⟨k, hk, rfl, hgr⟩ := hrel
    obtain ⟨z, hz⟩ : ∃ z : Int, z = (k : Int) - 1 := ⟨_, rfl⟩
    rw [← hz]
    have HZ := Lib.hid hz
    have HGR := Lib.hid hgr
    by_cases hk18 : k < 18
    · have hz1 : -1 ≤ z ∧ z ≤ 16 := by omega
      clear hz hgr
      go_wp2_with fail
      obtain ⟨W4, hW4⟩ : ∃ W4, W4 = wr.alloc (Obj.cells #[.int .i64 0, .int .i64 1, .int .i64 2, .int .i64 4, .int .i64 8, .int .i64 9] 3) := ⟨_, rfl⟩
      obtain ⟨b5, hb5⟩ : ∃ b, b = wr.heap.size := ⟨_, rfl⟩
      rw [← hW4, ← hb5]
      have HL4 : Hid (Row W4 b5 #[.int .i64 0, .int .i64 1, .int .i64 2, .int .i64 4, .int .i64 8, .int .i64 9] 3) := Lib.hid (by rw [hW4]; exact Row.new_at _ _ _ hb5)
      have HG4 : Hid (Grows W3 W4) := Lib.hid (by rw [hW4]; exact HGR.out.alloc _)
      clear hW4 hb5 HGR
      go_loopw [43] (fun u wl => ∃ i : Nat, i ≤ 6 ∧ u = .int .i64 i ∧ Grows W4 wl) (fun u _ => (6 - intOf u).toNat)
      case atStart => exact ⟨0, by omega, rfl, Grows.refl _⟩
      case round =>
        obtain ⟨i, hi, rfl, hgi⟩ := hrel
        have HGi := Lib.hid hgi
        clear hgi
        by_cases hi6 : i < 6
        · obtain ⟨e, hke⟩ : ∃ e, wr.cell? ⟨b5, i, none⟩ = some (.int .i64 e) := by
            have hk4 : i = 0 ∨ i = 1 ∨ i = 2 ∨ i = 3 ∨ i = 4 ∨ i = 5 := by omega
            rcases hk4 with rfl | rfl | rfl | rfl | rfl | rfl
            all_goals exact ⟨_, by rw [(HL4.out.grows HGi.out).cell]; rfl⟩
          have ll := (HL4.out.grows HGi.out).lt
          have HG5 := Lib.hid (HG4.out.trans HGi.out)
          have hi6' : (i : Int) < 6 := by omega
          rcases hone with hone | hone
          · go_wp2_with fail
            obtain ⟨W5, hW5⟩ : ∃ W5, W5 = wr.alloc (Obj.cells #[.bool false, .int .i64 e, .int .i64 z, .int .u64 0] 28) := ⟨_, rfl⟩
            obtain ⟨b14, hb14⟩ : ∃ b, b = wr.heap.size := ⟨_, rfl⟩
            rw [← hW5, ← hb14]
            have hA5 : Row W5 b14 #[.bool false, .int .i64 e, .int .i64 z, .int .u64 0] 28 := by rw [hW5]; exact Row.new_at _ _ _ hb14
            have hgw : Grows wr W5 := by rw [hW5]; exact (Grows.refl _).alloc _
            have HRO : Hid (∀ w', (∃ g, w' = W5.grow g) → Row w' b1 R 26) := Lib.hid fun w' ⟨g, hg⟩ => by rw [hg]; exact ((HR3.out.grows HG5.out).grows hgw).grows (Grows.of _ _)
            have HTW : Hid (∀ g, Widths (W5.grow g)) := Lib.hid fun g => HT.out.grows (((HG3.out.trans HG5.out).trans hgw).grow g)
            have HGW := Lib.hid (HGi.out.trans hgw)
            have c0 : W5.cell? ⟨b14, 0, none⟩ = some (.bool false) := hA5.cell 0
            have c1 : W5.cell? ⟨b14, 1, none⟩ = some (.int .i64 e) := hA5.cell 1
            have c2 : W5.cell? ⟨b14, 2, none⟩ = some (.int .i64 z) := hA5.cell 2
            have c3 : W5.cell? ⟨b14, 3, none⟩ = some (.int .u64 0) := hA5.cell 3
            have l14 := hA5.lt
            have q := fun W => neq_regs (finA_ok hR pc false z (ldV V e)) W
            obtain ⟨Z, hZ⟩ : ∃ Z, Z = finA R pc false z (ldV V e) := ⟨_, rfl⟩
            have can : ∀ W, Widths W → Calls Tryd.prog 7 #[.agg R, .agg #[.bool false, .int .i64 e, .int .i64 z, .int .u64 0], .int .u64 V] W fun r w' => r = .returned (.agg Z) ∧ Grows W w' := fun W hw => by rw [hZ]; exact finish_r hR HPC.out false e z 0 V W hw
            have cra : ∀ W, Calls Tryd.prog 8 #[.agg R, .agg #[.bool false, .int .i64 e, .int .i64 z, .int .u64 0], .int .u64 V] W fun r w' => r = .returned (.agg Z) ∧ Grows W w' := fun W => by rw [hZ]; exact rfinish_r hR HPC.out false e z 0 V W
            rw [← hZ] at q
            clear hW5 hb14 hA5 hgw hZ hke ll hone HGi HG5
            refine wp_region_grow (by kernel_rfl) (by kernel_rfl) ?_
            repeat (first
              | (go_big_quiet_want; refine quiet_load_row 26 (.tmp 4) (by rfl) b1 (by rfl) 26 R _ (by exact HRO.out) Tryd.underlying26 (by rfl) (by exact HI.out) ?_; go_big_quiet_on; go_simp)
              | go_big_quiet_step ((first | (go_at_call 7; exact (can _ (HTW.out _)).mono (fun _ _ ⟨he, hw⟩ => ⟨he, (Grows.of _ _).trans hw⟩)) | (go_at_call 8; exact (cra _).mono (fun _ _ ⟨he, hw⟩ => ⟨he, (Grows.of _ _).trans hw⟩)))))
            refine wpQuiet_nil ?_
            intro g5
            go_wp2_with fail
            go_roundw
            case measure => simp [intOf]; omega
            case rel => exact ⟨i + 1, by omega, by simp, HGW.out.grow _⟩
          · go_wp2_with fail
            obtain ⟨W5, hW5⟩ : ∃ W5, W5 = wr.alloc (Obj.cells #[.bool true, .int .i64 e, .int .i64 z, .int .u64 0] 28) := ⟨_, rfl⟩
            obtain ⟨b14, hb14⟩ : ∃ b, b = wr.heap.size := ⟨_, rfl⟩
            rw [← hW5, ← hb14]
            have hA5 : Row W5 b14 #[.bool true, .int .i64 e, .int .i64 z, .int .u64 0] 28 := by rw [hW5]; exact Row.new_at _ _ _ hb14
            have hgw : Grows wr W5 := by rw [hW5]; exact (Grows.refl _).alloc _
            have HRO : Hid (∀ w', (∃ g, w' = W5.grow g) → Row w' b1 R 26) := Lib.hid fun w' ⟨g, hg⟩ => by rw [hg]; exact ((HR3.out.grows HG5.out).grows hgw).grows (Grows.of _ _)
            have HTW : Hid (∀ g, Widths (W5.grow g)) := Lib.hid fun g => HT.out.grows (((HG3.out.trans HG5.out).trans hgw).grow g)
            have HGW := Lib.hid (HGi.out.trans hgw)
            have c0 : W5.cell? ⟨b14, 0, none⟩ = some (.bool true) := hA5.cell 0
            have c1 : W5.cell? ⟨b14, 1, none⟩ = some (.int .i64 e) := hA5.cell 1
            have c2 : W5.cell? ⟨b14, 2, none⟩ = some (.int .i64 z) := hA5.cell 2
            have c3 : W5.cell? ⟨b14, 3, none⟩ = some (.int .u64 0) := hA5.cell 3
            have l14 := hA5.lt
            have q := fun W => neq_regs (finA_ok hR pc true z (ldV V e)) W
            obtain ⟨Z, hZ⟩ : ∃ Z, Z = finA R pc true z (ldV V e) := ⟨_, rfl⟩
            have can : ∀ W, Widths W → Calls Tryd.prog 7 #[.agg R, .agg #[.bool true, .int .i64 e, .int .i64 z, .int .u64 0], .int .u64 V] W fun r w' => r = .returned (.agg Z) ∧ Grows W w' := fun W hw => by rw [hZ]; exact finish_r hR HPC.out true e z 0 V W hw
            have cra : ∀ W, Calls Tryd.prog 8 #[.agg R, .agg #[.bool true, .int .i64 e, .int .i64 z, .int .u64 0], .int .u64 V] W fun r w' => r = .returned (.agg Z) ∧ Grows W w' := fun W => by rw [hZ]; exact rfinish_r hR HPC.out true e z 0 V W
            rw [← hZ] at q
            clear hW5 hb14 hA5 hgw hZ hke ll hone HGi HG5
            refine wp_region_grow (by kernel_rfl) (by kernel_rfl) ?_
            repeat (first
              | (go_big_quiet_want; refine quiet_load_row 26 (.tmp 4) (by rfl) b1 (by rfl) 26 R _ (by exact HRO.out) Tryd.underlying26 (by rfl) (by exact HI.out) ?_; go_big_quiet_on; go_simp)
              | go_big_quiet_step ((first | (go_at_call 7; exact (can _ (HTW.out _)).mono (fun _ _ ⟨he, hw⟩ => ⟨he, (Grows.of _ _).trans hw⟩)) | (go_at_call 8; exact (cra _).mono (fun _ _ ⟨he, hw⟩ => ⟨he, (Grows.of _ _).trans hw⟩)))))
            refine wpQuiet_nil ?_
            intro g5
            go_wp2_with fail
            go_roundw
            case measure => simp [intOf]; omega
            case rel => exact ⟨i + 1, by omega, by simp, HGW.out.grow _⟩
        · have hi0 : i = 6 := by omega
          subst hi0
          have HG5 := Lib.hid (HG4.out.trans HGi.out)
          rw [show ((6 : Nat) : Int) = 6 from rfl]
          clear HGi HG4 HL4
          go_wp2_with fail
          go_roundw
          case measure => simp [intOf]; omega
          case rel => exact ⟨k + 1, by omega, by simp; have := HZ.out; omega, HG5.out⟩
    · have hz1 : z = 17 := by omega
      clear hz hgr
      subst hz1
      have HRO : Hid (∀ w', (∃ g, w' = wr.grow g) → Row w' b1 R 26) := Lib.hid fun w' ⟨g, hg⟩ => by rw [hg]; exact (HR3.out.grows HGR.out).grows (Grows.of _ _)
      have HTW : Hid (∀ g, Widths (wr.grow g)) := Lib.hid fun g => HT.out.grows ((HG3.out.trans HGR.out).grow g)
      have HGW := Lib.hid (HG3.out.trans HGR.out)
      have hA5 := HA3.out.grows HGR.out
      have hB5 := HB3.out.grows HGR.out
      have a0 : wr.cell? ⟨b7, 0, none⟩ = some (.bool ws) := hA5.cell 0
      have a1 : wr.cell? ⟨b7, 1, none⟩ = some (.int .i64 wid) := hA5.cell 1
      have a2 : wr.cell? ⟨b7, 2, none⟩ = some (.int .i64 reg) := hA5.cell 2
      have a3 : wr.cell? ⟨b7, 3, none⟩ = some (.int .u64 val) := hA5.cell 3
      have c0 : wr.cell? ⟨b9, 0, none⟩ = some (.bool ws) := hB5.cell 0
      have c1 : wr.cell? ⟨b9, 1, none⟩ = some (.int .i64 wid) := hB5.cell 1
      have c2 : wr.cell? ⟨b9, 2, none⟩ = some (.int .i64 reg) := hB5.cell 2
      have c3 : wr.cell? ⟨b9, 3, none⟩ = some (.int .u64 val) := hB5.cell 3
      have la := hA5.lt
      have lb := hB5.lt
      have qf := fun W => eql_regs (finA_ok hR pc ws reg (ldV V wid)) W
      have qs := fun W => eql_regs (R := skipA R pc) (hR.set (by decide) _) W
      obtain ⟨Z, hZ⟩ : ∃ Z, Z = finA R pc ws reg (ldV V wid) := ⟨_, rfl⟩
      obtain ⟨Y, hY⟩ : ∃ Y, Y = skipA R pc := ⟨_, rfl⟩
      have can : ∀ W, Widths W → Calls Tryd.prog 7 #[.agg R, .agg #[.bool ws, .int .i64 wid, .int .i64 reg, .int .u64 val], .int .u64 V] W fun r w' => r = .returned (.agg Z) ∧ Grows W w' := fun W hw => by rw [hZ]; exact finish_r hR HPC.out ws wid reg val V W hw
      have cra : ∀ W, Calls Tryd.prog 8 #[.agg R, .agg #[.bool ws, .int .i64 wid, .int .i64 reg, .int .u64 val], .int .u64 V] W fun r w' => r = .returned (.agg Z) ∧ Grows W w' := fun W => by rw [hZ]; exact rfinish_r hR HPC.out ws wid reg val V W
      have csk : ∀ W, Calls Tryd.prog 9 #[.agg R] W fun r w' => r = .returned (.agg Y) ∧ Grows W w' := fun W => by rw [hY]; exact skip_r hR HPC.out W
      have crs : ∀ W, Calls Tryd.prog 10 #[.agg R] W fun r w' => r = .returned (.agg Y) ∧ Grows W w' := fun W => by rw [hY]; exact rskip_r hR HPC.out W
      rw [← hZ] at qf
      rw [← hY] at qs
      clear hA5 hB5 hZ hY hone HGR HA3 HB3 HR3 HG3
      go_wp2_with fail
      refine wp_region_grow (by kernel_rfl) (by kernel_rfl) ?_
      repeat (first
        | (go_big_quiet_want; refine quiet_load_row 26 (.tmp 4) (by rfl) b1 (by rfl) 26 R _ (by exact HRO.out) Tryd.underlying26 (by rfl) (by exact HI.out) ?_; go_big_quiet_on; go_simp)
        | go_big_quiet_step ((first | (go_at_call 7; exact (can _ (HTW.out _)).mono (fun _ _ ⟨he, hw⟩ => ⟨he, (Grows.of _ _).trans hw⟩)) | (go_at_call 8; exact (cra _).mono (fun _ _ ⟨he, hw⟩ => ⟨he, (Grows.of _ _).trans hw⟩)) | (go_at_call 9; exact (csk _).mono (fun _ _ ⟨he, hw⟩ => ⟨he, (Grows.of _ _).trans hw⟩)) | (go_at_call 10; exact (crs _).mono (fun _ _ ⟨he, hw⟩ => ⟨he, (Grows.of _ _).trans hw⟩)))))
      refine wpQuiet_nil ?_
      intro g5
      go_wp2_with fail
      go_ret
      exact ⟨rfl, HGW.out.grow _⟩
theorem emulateDecodes_walk (x : Int) (wx : (Lit.int .u32 x).wf = true) (ns : List Int) (hl : ns.length = 16) (hns : ∀ x ∈ ns, (Lit.int .u64 x).wf = true) (pc : Int) (_ : (Lit.int .u64 pc).wf = true) (m : Int) (_ : (Lit.int .i64 m).wf = true) (u : Int) (wu : (Lit.int .u64 u).wf = true) (w : World) (hT : Widths w) :
    Calls Tryd.prog 3 #[.int .u32 x, .agg (ns.map (Value.int .u64) ++ [Value.int .u64 pc, Value.int .i64 m]).toArray, .int .u64 u] w fun r w' => r = .returned (.bool true) ∧ Grows w w' := by
  have e1 : IntKind.u32.min = 0 := by decide
  have e2 : IntKind.u32.max = 4294967295 := by decide
  have e3 : IntKind.u64.min = 0 := by decide
  have e4 : IntKind.u64.max = 18446744073709551615 := by decide
  have hx : 0 ≤ x ∧ x < 4294967296 := by
    simp only [Lit.wf, e1, e2, Bool.and_eq_true, decide_eq_true_eq] at wx; omega
  obtain ⟨V, rfl, hV⟩ : ∃ V : Nat, u = V ∧ V < 18446744073709551616 := by
    simp only [Lit.wf, e3, e4, Bool.and_eq_true, decide_eq_true_eq] at wu
    exact ⟨u.toNat, by omega, by omega⟩
  have hRO : RegsOk (ns.map (Value.int .u64) ++ [Value.int .u64 pc, Value.int .i64 m]).toArray := by
    match ns, hl with
    | [y0, y1, y2, y3, y4, y5, y6, y7, y8, y9, y10, y11, y12, y13, y14, y15], _ => exact ⟨_, _, _, _, _, _, _, _, _, _, _, _, _, _, _, _, _, _, rfl⟩
  have hN : RegN (ns.map (Value.int .u64) ++ [Value.int .u64 pc, Value.int .i64 m]).toArray (fun i => (ns.getD i 0).toNat) := by
    refine ⟨by simp [hl], fun i hi => ?_⟩
    have hin : i < ns.length := by omega
    have hm : ns.getD i 0 ∈ ns := by rw [List.getD_eq_getElem?_getD, List.getElem?_eq_getElem hin]; exact List.getElem_mem hin
    have hw := hns _ hm
    simp only [Lit.wf, e3, e4, Bool.and_eq_true, decide_eq_true_eq] at hw
    refine ⟨by show (ns.getD i 0).toNat < _; omega, ?_⟩
    rw [List.getElem?_toArray, List.getElem?_append_left (by simpa using hin), List.getElem?_map, List.getElem?_eq_getElem hin]
    show some (Value.int .u64 ns[i]) = some (Value.int .u64 ((ns.getD i 0).toNat : Nat))
    rw [List.getD_eq_getElem?_getD, List.getElem?_eq_getElem hin]
    rw [List.getD_eq_getElem?_getD, List.getElem?_eq_getElem hin] at hw
    simp only [Option.getD_some] at hw ⊢
    congr 2
    omega
  exact decodes_law hx hRO hN V hV w hT
end Go.Proofs.YtjbgamifkgeodaaDoor
