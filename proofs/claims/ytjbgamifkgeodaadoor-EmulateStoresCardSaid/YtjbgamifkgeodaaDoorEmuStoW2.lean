/- The walk of EmulateStores: the stores, and all. -/
import Derived.Test.YtjbgamifkgeodaaDoorEmuStoW
namespace Go.Proofs.YtjbgamifkgeodaaDoor
open Go Go.RowKit
set_option linter.unusedSimpArgs false
set_option linter.unusedVariables false
set_option maxRecDepth 100000 in
set_option maxHeartbeats 4000000 in
theorem sto_3 {R : Array Value} (hR : RegsOk R) {f : Nat → Nat} (hN : RegN R f) {j : Nat} (op0 reg0 s : Int) (hj : bits .and .i64 reg0 15 = j) (hj16 : j < 16) (h1 : wrap64 (op0.tmod 6 + 6) = s) (h2 : s.tmod 6 = 3) (w : World) (hT : Widths w) :
    Calls Tryd.prog 4 #[.agg R, .int .i64 op0, .int .i64 reg0] w fun r w' => r = .returned (.bool true) ∧ Grows w w' := by
  obtain ⟨henc, hdc⟩ := sto_store (op := 26) (j := j) (val_load.2.2.2.1 ⟨j, hj16⟩)
  have hdec := fun W => edec_26 (R := R) hdc hN (j := j) rfl hj16 rfl rfl W
  clear hdc
  obtain ⟨vv, hvv⟩ : ∃ vv, vv = rvF f j % 18446744073709551616 := ⟨_, rfl⟩
  rw [← hvv] at hdec
  have HVV := Lib.hid hvv
  clear hvv
  obtain ⟨pc, hpc⟩ := hR.at (i := 16) (by decide)
  obtain ⟨m, hm⟩ := hR.mode
  obtain ⟨hz1, hz2, hz3⟩ := finA_at hR hN (pc := pc) hm true hj16 (ldV 5 8)
  have hZok := finA_ok hR pc true (j : Int) (ldV 5 8)
  obtain ⟨Z, hZ⟩ : ∃ Z, Z = finA R pc true (j : Int) (ldV 5 8) := ⟨_, rfl⟩
  have hfin : ∀ W, Widths W → Calls Tryd.prog 7 #[.agg R, .agg #[.bool true, .int .i64 8, .int .i64 (j : Int), .int .u64 (vv : Nat)], .int .u64 5] W fun r w' => r = .returned (.agg Z) ∧ Grows W w' := fun W hw => by rw [hZ]; exact finish_r hR hpc true 8 (j : Int) (vv : Nat) 5 W hw
  rw [← hZ] at hz1 hz2 hz3 hZok
  have HZ1 := Lib.hid hz1
  have HZ2 := Lib.hid hz2
  have HZ3 := Lib.hid hz3
  have HPC := Lib.hid hpc
  have HM := Lib.hid hm
  have HT := Lib.hid hT
  clear hpc hT hZ hz1 hz2 hz3 hm
  go_enter Tryd.func4, Tryd.ntmps4
  go_wp2_with fail
  obtain ⟨W, hW⟩ : ∃ W, W = (w.alloc (Obj.cells R 26)).alloc (Obj.cells #[.int .i64 26, .int .i64 0, .int .i64 7, .int .i64 (j : Int), .int .i64 0] 41) := ⟨_, rfl⟩
  obtain ⟨b3, hb3⟩ : ∃ b, b = w.heap.size := ⟨_, rfl⟩
  obtain ⟨b7, hb7⟩ : ∃ b, b = w.heap.size + 1 := ⟨_, rfl⟩
  rw [← hW, ← hb7, ← hb3]
  have hG0 : Grows w W := by rw [hW]; exact ((Grows.refl _).alloc _).alloc _
  have hR0 : Row W b3 R 26 := by rw [hW]; exact (Row.new_at _ _ _ hb3).grows ((Grows.refl _).alloc _)
  clear hW hb3 hb7
  have HI := Lib.hid (show (Tryd.prog.info? 26).map (·.size) = some R.size by rw [hR.size]; kernel_rfl)
  refine (henc W).mono ?_
  rintro _ w1 ⟨rfl, hg1⟩
  have HR1 := Lib.hid (hR0.grows hg1)
  have HG1 := Lib.hid (hG0.trans hg1)
  clear hR0 hG0 hg1 henc h1 h2 hj
  go_wp2_with (refine wpList_load_row (by rfl) 26 _ (by rfl) b3 (by rfl) 26 R (0, 0) _ (by exact HR1.out) Tryd.underlying26 rfl HI.out ?_)
  refine (hdec w1).mono ?_
  rintro _ w2 ⟨rfl, hg2⟩
  have HR2 := Lib.hid (HR1.out.grows hg2)
  have HG2 := Lib.hid (HG1.out.trans hg2)
  clear hdec hg2 HR1 HG1
  have cj : w2.cell? ⟨b3, j, none⟩ = some (.int .u64 (f j : Nat)) := by rw [HR2.out.cell]; exact (hN.2 j hj16).2
  have lr := HR2.out.lt
  have o1 : (j : Int) < 16 := by omega
  have HR3 := Lib.hid ((HR2.out.grows ((Grows.refl _).alloc (Obj.cells #[.bool true, .int .i64 8, .int .i64 (j : Int), .int .u64 (vv : Nat)] 28))).grows ((Grows.refl _).alloc (Obj.cells #[.int .u64 18446744073709551615, .int .u64 4294967295, .int .u64 255] 23)))
  obtain ⟨fj, hfj⟩ : ∃ fj, fj = f j := ⟨_, rfl⟩
  rw [← hfj] at cj
  have HFJ := Lib.hid hfj
  clear hfj
  by_cases hj0 : j = 0
  · have hjb : ((j : Int) == 0) = true := by simp; exact hj0
    have hb0 : bits .and .u64 0 18446744073709551615 = 0 := by decide
    have hvb : ((vv : Int) != 0) = false := by
      have := HVV.out
      rw [hj0] at this
      simp [this, rvF]
    clear hj0
    go_wp2_with (refine wpList_load_row (by rfl) 26 _ (by rfl) b3 (by rfl) 26 R (0, 0) _ (by exact HR3.out) Tryd.underlying26 rfl HI.out ?_)
    refine (hfin _ (HT.out.grows (((HG2.out.alloc _).alloc _)))).mono ?_
    rintro _ w4 ⟨rfl, hg4⟩
    obtain ⟨b10, hb10⟩ : ∃ b, b = w2.heap.size := ⟨_, rfl⟩
    have HA4 := Lib.hid (((Row.new_at (b := b10) w2 #[.bool true, .int .i64 8, .int .i64 (j : Int), .int .u64 (vv : Nat)] 28 hb10).grows ((Grows.refl _).alloc (Obj.cells #[.int .u64 18446744073709551615, .int .u64 4294967295, .int .u64 255] 23))).grows hg4)
    have HR4 := Lib.hid (HR3.out.grows hg4)
    have HG4 := Lib.hid (((HG2.out.alloc (Obj.cells #[.bool true, .int .i64 8, .int .i64 (j : Int), .int .u64 (vv : Nat)] 28)).alloc (Obj.cells #[.int .u64 18446744073709551615, .int .u64 4294967295, .int .u64 255] 23)).trans hg4)
    rw [← hb10]
    have HZ0 := Lib.hid (Row.new w4 regs0.toArray 26)
    have HIZ := Lib.hid (show (Tryd.prog.info? 26).map (·.size) = some Z.size by rw [hZok.size]; kernel_rfl)
    have HSZ := Lib.hid (show regs0.toArray.size = Z.size by rw [hZok.size]; rfl)
    have HOZ := Lib.hid hZok.one
    obtain ⟨W5, hW5⟩ : ∃ W5, W5 = (w4.alloc (Obj.cells regs0.toArray 26)).setRow w4.heap.size Z := ⟨_, rfl⟩
    have HW5 := Lib.hid hW5.symm
    obtain ⟨b14, hb14⟩ : ∃ b, b = w4.heap.size := ⟨_, rfl⟩
    have HZ5 : Hid (Row W5 b14 Z 26) := Lib.hid (by rw [hW5, hb14]; exact row_setRow HZ0.out Z)
    have HR5 : Hid (Row W5 b3 R 26) := Lib.hid (by
      rw [hW5]
      exact row_setRowOther (HR4.out.grows ((Grows.refl _).alloc _)) (by have := HR4.out.lt; omega) Z)
    have HA5 : Hid (Row W5 b10 #[.bool true, .int .i64 8, .int .i64 (j : Int), .int .u64 (vv : Nat)] 28) := Lib.hid (by
      rw [hW5]
      exact row_setRowOther (HA4.out.grows ((Grows.refl _).alloc _)) (by have := HA4.out.lt; omega) Z)
    have HG5 : Hid (Grows w W5) := Lib.hid (by
      rw [hW5]
      exact grows_setRow (HG4.out.alloc _) (by have := HG4.out.size; omega) Z)
    clear hW5 hg4 hb10 cj lr HG2 HR2 HR3 hfin
    go_wp2_with (refine wpList_store_row (by rfl) 26 _ _ (by rfl) w4.heap.size Z (by rfl) (by rfl) 26 _ (by exact HZ0.out) HIZ.out HSZ.out HOZ.out ?_; rw [HW5.out])
    rw [← hb14]
    clear HZ0 HW5 hb14 HR4 HA4 HG4
    go_loopw [15] (fun u wl => ∃ i : Nat, i ≤ 16 ∧ u = .int .i64 i ∧ Grows W5 wl) (fun u _ => (16 - intOf u).toNat)
    case atStart => exact ⟨0, by omega, rfl, Grows.refl _⟩
    case round =>
      obtain ⟨i, hi, rfl, hgr⟩ := hrel
      have hA := HA5.out.grows hgr
      have hRr := HR5.out.grows hgr
      have hZr := HZ5.out.grows hgr
      have HGR := Lib.hid hgr
      have la := hA.lt
      have lr := hRr.lt
      have lz := hZr.lt
      have a0 : wr.cell? ⟨b10, 0, none⟩ = some (.bool true) := hA.cell 0
      by_cases hi16 : i < 16
      · have o2 : (i : Int) < 16 := by omega
        have cr : wr.cell? ⟨b3, i, none⟩ = some (.int .u64 (f i : Nat)) := by rw [hRr.cell]; exact (hN.2 i hi16).2
        have cz := hZr.cell i
        rw [HZ1.out i hi16] at cz
        clear hA hRr hZr hgr
        rw [if_neg (by first | (intro h; exact HJ0.out h.2.1) | (intro h; cases h.1))] at cz
        generalize f i = fi at cr cz
        by_cases hij : i = j
        · have hijb : ((i : Int) == (j : Int)) = true := by simp; omega
          clear hij
          go_wp2_with fail
          refine wp_region_grow (by kernel_rfl) (by kernel_rfl) ?_
          repeat (go_big_quiet_step ((fail)))
          refine wpQuiet_nil ?_
          intro _ hw'
          obtain ⟨gg, rfl⟩ := hw'
          go_wp2_with fail
          go_roundw
          case measure => simp [intOf]; omega
          case rel => exact ⟨i + 1, by omega, by simp, HGR.out.grow _⟩
        · have hijb : ((i : Int) == (j : Int)) = false := by simp; omega
          clear hij
          go_wp2_with fail
          refine wp_region_grow (by kernel_rfl) (by kernel_rfl) ?_
          repeat (go_big_quiet_step ((fail)))
          refine wpQuiet_nil ?_
          intro _ hw'
          obtain ⟨gg, rfl⟩ := hw'
          go_wp2_with fail
          go_roundw
          case measure => simp [intOf]; omega
          case rel => exact ⟨i + 1, by omega, by simp, HGR.out.grow _⟩
      · have hi0 : i = 16 := by omega
        subst hi0
        have r16 : wr.cell? ⟨b3, 16, none⟩ = some (.int .u64 pc) := by rw [hRr.cell]; exact HPC.out
        have r17 : wr.cell? ⟨b3, 17, none⟩ = some (.int .i64 m) := by rw [hRr.cell]; exact HM.out
        have z16 : wr.cell? ⟨b14, 16, none⟩ = some (.int .u64 (IntKind.u64.wrap (pc + 4))) := by rw [hZr.cell]; exact HZ2.out
        have z17 : wr.cell? ⟨b14, 17, none⟩ = some (.int .i64 m) := by rw [hZr.cell]; exact HZ3.out
        have HGW := Lib.hid (HG5.out.trans hgr)
        rw [show ((16 : Nat) : Int) = 16 from rfl]
        clear hA hRr hZr hgr HGR
        go_wp2_with fail
        go_ret
        exact ⟨by simp, HGW.out⟩
  · have hjb : ((j : Int) == 0) = false := by simp; exact hj0
    have hbits : bits .and .u64 (fj : Int) 18446744073709551615 = (vv : Nat) := by
      have hf : fj < 18446744073709551616 := by rw [HFJ.out]; exact (hN.2 j hj16).1
      have hv : vv = fj % 18446744073709551616 := by
        rw [HVV.out, HFJ.out]; unfold rvF; rw [if_neg hj0]
      have := and_mask_u64 (x := (fj : Int)) (n := 64) (by omega) (by omega) (by omega)
      rw [hv]
      simpa using this
    clear hj0
    go_wp2_with (refine wpList_load_row (by rfl) 26 _ (by rfl) b3 (by rfl) 26 R (0, 0) _ (by exact HR3.out) Tryd.underlying26 rfl HI.out ?_)
    refine (hfin _ (HT.out.grows (((HG2.out.alloc _).alloc _)))).mono ?_
    rintro _ w4 ⟨rfl, hg4⟩
    obtain ⟨b10, hb10⟩ : ∃ b, b = w2.heap.size := ⟨_, rfl⟩
    have HA4 := Lib.hid (((Row.new_at (b := b10) w2 #[.bool true, .int .i64 8, .int .i64 (j : Int), .int .u64 (vv : Nat)] 28 hb10).grows ((Grows.refl _).alloc (Obj.cells #[.int .u64 18446744073709551615, .int .u64 4294967295, .int .u64 255] 23))).grows hg4)
    have HR4 := Lib.hid (HR3.out.grows hg4)
    have HG4 := Lib.hid (((HG2.out.alloc (Obj.cells #[.bool true, .int .i64 8, .int .i64 (j : Int), .int .u64 (vv : Nat)] 28)).alloc (Obj.cells #[.int .u64 18446744073709551615, .int .u64 4294967295, .int .u64 255] 23)).trans hg4)
    rw [← hb10]
    have HZ0 := Lib.hid (Row.new w4 regs0.toArray 26)
    have HIZ := Lib.hid (show (Tryd.prog.info? 26).map (·.size) = some Z.size by rw [hZok.size]; kernel_rfl)
    have HSZ := Lib.hid (show regs0.toArray.size = Z.size by rw [hZok.size]; rfl)
    have HOZ := Lib.hid hZok.one
    obtain ⟨W5, hW5⟩ : ∃ W5, W5 = (w4.alloc (Obj.cells regs0.toArray 26)).setRow w4.heap.size Z := ⟨_, rfl⟩
    have HW5 := Lib.hid hW5.symm
    obtain ⟨b14, hb14⟩ : ∃ b, b = w4.heap.size := ⟨_, rfl⟩
    have HZ5 : Hid (Row W5 b14 Z 26) := Lib.hid (by rw [hW5, hb14]; exact row_setRow HZ0.out Z)
    have HR5 : Hid (Row W5 b3 R 26) := Lib.hid (by
      rw [hW5]
      exact row_setRowOther (HR4.out.grows ((Grows.refl _).alloc _)) (by have := HR4.out.lt; omega) Z)
    have HA5 : Hid (Row W5 b10 #[.bool true, .int .i64 8, .int .i64 (j : Int), .int .u64 (vv : Nat)] 28) := Lib.hid (by
      rw [hW5]
      exact row_setRowOther (HA4.out.grows ((Grows.refl _).alloc _)) (by have := HA4.out.lt; omega) Z)
    have HG5 : Hid (Grows w W5) := Lib.hid (by
      rw [hW5]
      exact grows_setRow (HG4.out.alloc _) (by have := HG4.out.size; omega) Z)
    clear hW5 hg4 hb10 cj lr HG2 HR2 HR3 hfin
    go_wp2_with (refine wpList_store_row (by rfl) 26 _ _ (by rfl) w4.heap.size Z (by rfl) (by rfl) 26 _ (by exact HZ0.out) HIZ.out HSZ.out HOZ.out ?_; rw [HW5.out])
    rw [← hb14]
    clear HZ0 HW5 hb14 HR4 HA4 HG4
    go_loopw [15] (fun u wl => ∃ i : Nat, i ≤ 16 ∧ u = .int .i64 i ∧ Grows W5 wl) (fun u _ => (16 - intOf u).toNat)
    case atStart => exact ⟨0, by omega, rfl, Grows.refl _⟩
    case round =>
      obtain ⟨i, hi, rfl, hgr⟩ := hrel
      have hA := HA5.out.grows hgr
      have hRr := HR5.out.grows hgr
      have hZr := HZ5.out.grows hgr
      have HGR := Lib.hid hgr
      have la := hA.lt
      have lr := hRr.lt
      have lz := hZr.lt
      have a0 : wr.cell? ⟨b10, 0, none⟩ = some (.bool true) := hA.cell 0
      by_cases hi16 : i < 16
      · have o2 : (i : Int) < 16 := by omega
        have cr : wr.cell? ⟨b3, i, none⟩ = some (.int .u64 (f i : Nat)) := by rw [hRr.cell]; exact (hN.2 i hi16).2
        have cz := hZr.cell i
        rw [HZ1.out i hi16] at cz
        clear hA hRr hZr hgr
        rw [if_neg (by first | (intro h; exact HJ0.out h.2.1) | (intro h; cases h.1))] at cz
        generalize f i = fi at cr cz
        by_cases hij : i = j
        · have hijb : ((i : Int) == (j : Int)) = true := by simp; omega
          clear hij
          go_wp2_with fail
          refine wp_region_grow (by kernel_rfl) (by kernel_rfl) ?_
          repeat (go_big_quiet_step ((fail)))
          refine wpQuiet_nil ?_
          intro _ hw'
          obtain ⟨gg, rfl⟩ := hw'
          go_wp2_with fail
          go_roundw
          case measure => simp [intOf]; omega
          case rel => exact ⟨i + 1, by omega, by simp, HGR.out.grow _⟩
        · have hijb : ((i : Int) == (j : Int)) = false := by simp; omega
          clear hij
          go_wp2_with fail
          refine wp_region_grow (by kernel_rfl) (by kernel_rfl) ?_
          repeat (go_big_quiet_step ((fail)))
          refine wpQuiet_nil ?_
          intro _ hw'
          obtain ⟨gg, rfl⟩ := hw'
          go_wp2_with fail
          go_roundw
          case measure => simp [intOf]; omega
          case rel => exact ⟨i + 1, by omega, by simp, HGR.out.grow _⟩
      · have hi0 : i = 16 := by omega
        subst hi0
        have r16 : wr.cell? ⟨b3, 16, none⟩ = some (.int .u64 pc) := by rw [hRr.cell]; exact HPC.out
        have r17 : wr.cell? ⟨b3, 17, none⟩ = some (.int .i64 m) := by rw [hRr.cell]; exact HM.out
        have z16 : wr.cell? ⟨b14, 16, none⟩ = some (.int .u64 (IntKind.u64.wrap (pc + 4))) := by rw [hZr.cell]; exact HZ2.out
        have z17 : wr.cell? ⟨b14, 17, none⟩ = some (.int .i64 m) := by rw [hZr.cell]; exact HZ3.out
        have HGW := Lib.hid (HG5.out.trans hgr)
        rw [show ((16 : Nat) : Int) = 16 from rfl]
        clear hA hRr hZr hgr HGR
        go_wp2_with fail
        go_ret
        exact ⟨by simp, HGW.out⟩
set_option maxRecDepth 100000 in
set_option maxHeartbeats 4000000 in
theorem sto_4 {R : Array Value} (hR : RegsOk R) {f : Nat → Nat} (hN : RegN R f) {j : Nat} (op0 reg0 s : Int) (hj : bits .and .i64 reg0 15 = j) (hj16 : j < 16) (h1 : wrap64 (op0.tmod 6 + 6) = s) (h2 : s.tmod 6 = 4) (w : World) (hT : Widths w) :
    Calls Tryd.prog 4 #[.agg R, .int .i64 op0, .int .i64 reg0] w fun r w' => r = .returned (.bool true) ∧ Grows w w' := by
  obtain ⟨henc, hdc⟩ := sto_store (op := 27) (j := j) (val_load.2.2.2.2.1 ⟨j, hj16⟩)
  have hdec := fun W => edec_27 (R := R) hdc hN (j := j) rfl hj16 rfl rfl W
  clear hdc
  obtain ⟨vv, hvv⟩ : ∃ vv, vv = rvF f j % 4294967296 := ⟨_, rfl⟩
  rw [← hvv] at hdec
  have HVV := Lib.hid hvv
  clear hvv
  obtain ⟨pc, hpc⟩ := hR.at (i := 16) (by decide)
  obtain ⟨m, hm⟩ := hR.mode
  obtain ⟨hz1, hz2, hz3⟩ := finA_at hR hN (pc := pc) hm true hj16 (ldV 5 4)
  have hZok := finA_ok hR pc true (j : Int) (ldV 5 4)
  obtain ⟨Z, hZ⟩ : ∃ Z, Z = finA R pc true (j : Int) (ldV 5 4) := ⟨_, rfl⟩
  have hfin : ∀ W, Widths W → Calls Tryd.prog 7 #[.agg R, .agg #[.bool true, .int .i64 4, .int .i64 (j : Int), .int .u64 (vv : Nat)], .int .u64 5] W fun r w' => r = .returned (.agg Z) ∧ Grows W w' := fun W hw => by rw [hZ]; exact finish_r hR hpc true 4 (j : Int) (vv : Nat) 5 W hw
  rw [← hZ] at hz1 hz2 hz3 hZok
  have HZ1 := Lib.hid hz1
  have HZ2 := Lib.hid hz2
  have HZ3 := Lib.hid hz3
  have HPC := Lib.hid hpc
  have HM := Lib.hid hm
  have HT := Lib.hid hT
  clear hpc hT hZ hz1 hz2 hz3 hm
  go_enter Tryd.func4, Tryd.ntmps4
  go_wp2_with fail
  obtain ⟨W, hW⟩ : ∃ W, W = (w.alloc (Obj.cells R 26)).alloc (Obj.cells #[.int .i64 27, .int .i64 0, .int .i64 7, .int .i64 (j : Int), .int .i64 0] 41) := ⟨_, rfl⟩
  obtain ⟨b3, hb3⟩ : ∃ b, b = w.heap.size := ⟨_, rfl⟩
  obtain ⟨b7, hb7⟩ : ∃ b, b = w.heap.size + 1 := ⟨_, rfl⟩
  rw [← hW, ← hb7, ← hb3]
  have hG0 : Grows w W := by rw [hW]; exact ((Grows.refl _).alloc _).alloc _
  have hR0 : Row W b3 R 26 := by rw [hW]; exact (Row.new_at _ _ _ hb3).grows ((Grows.refl _).alloc _)
  clear hW hb3 hb7
  have HI := Lib.hid (show (Tryd.prog.info? 26).map (·.size) = some R.size by rw [hR.size]; kernel_rfl)
  refine (henc W).mono ?_
  rintro _ w1 ⟨rfl, hg1⟩
  have HR1 := Lib.hid (hR0.grows hg1)
  have HG1 := Lib.hid (hG0.trans hg1)
  clear hR0 hG0 hg1 henc h1 h2 hj
  go_wp2_with (refine wpList_load_row (by rfl) 26 _ (by rfl) b3 (by rfl) 26 R (0, 0) _ (by exact HR1.out) Tryd.underlying26 rfl HI.out ?_)
  refine (hdec w1).mono ?_
  rintro _ w2 ⟨rfl, hg2⟩
  have HR2 := Lib.hid (HR1.out.grows hg2)
  have HG2 := Lib.hid (HG1.out.trans hg2)
  clear hdec hg2 HR1 HG1
  have cj : w2.cell? ⟨b3, j, none⟩ = some (.int .u64 (f j : Nat)) := by rw [HR2.out.cell]; exact (hN.2 j hj16).2
  have lr := HR2.out.lt
  have o1 : (j : Int) < 16 := by omega
  have HR3 := Lib.hid ((HR2.out.grows ((Grows.refl _).alloc (Obj.cells #[.bool true, .int .i64 4, .int .i64 (j : Int), .int .u64 (vv : Nat)] 28))).grows ((Grows.refl _).alloc (Obj.cells #[.int .u64 18446744073709551615, .int .u64 4294967295, .int .u64 255] 23)))
  obtain ⟨fj, hfj⟩ : ∃ fj, fj = f j := ⟨_, rfl⟩
  rw [← hfj] at cj
  have HFJ := Lib.hid hfj
  clear hfj
  by_cases hj0 : j = 0
  · have hjb : ((j : Int) == 0) = true := by simp; exact hj0
    have hb0 : bits .and .u64 0 4294967295 = 0 := by decide
    have hvb : ((vv : Int) != 0) = false := by
      have := HVV.out
      rw [hj0] at this
      simp [this, rvF]
    clear hj0
    go_wp2_with (refine wpList_load_row (by rfl) 26 _ (by rfl) b3 (by rfl) 26 R (0, 0) _ (by exact HR3.out) Tryd.underlying26 rfl HI.out ?_)
    refine (hfin _ (HT.out.grows (((HG2.out.alloc _).alloc _)))).mono ?_
    rintro _ w4 ⟨rfl, hg4⟩
    obtain ⟨b10, hb10⟩ : ∃ b, b = w2.heap.size := ⟨_, rfl⟩
    have HA4 := Lib.hid (((Row.new_at (b := b10) w2 #[.bool true, .int .i64 4, .int .i64 (j : Int), .int .u64 (vv : Nat)] 28 hb10).grows ((Grows.refl _).alloc (Obj.cells #[.int .u64 18446744073709551615, .int .u64 4294967295, .int .u64 255] 23))).grows hg4)
    have HR4 := Lib.hid (HR3.out.grows hg4)
    have HG4 := Lib.hid (((HG2.out.alloc (Obj.cells #[.bool true, .int .i64 4, .int .i64 (j : Int), .int .u64 (vv : Nat)] 28)).alloc (Obj.cells #[.int .u64 18446744073709551615, .int .u64 4294967295, .int .u64 255] 23)).trans hg4)
    rw [← hb10]
    have HZ0 := Lib.hid (Row.new w4 regs0.toArray 26)
    have HIZ := Lib.hid (show (Tryd.prog.info? 26).map (·.size) = some Z.size by rw [hZok.size]; kernel_rfl)
    have HSZ := Lib.hid (show regs0.toArray.size = Z.size by rw [hZok.size]; rfl)
    have HOZ := Lib.hid hZok.one
    obtain ⟨W5, hW5⟩ : ∃ W5, W5 = (w4.alloc (Obj.cells regs0.toArray 26)).setRow w4.heap.size Z := ⟨_, rfl⟩
    have HW5 := Lib.hid hW5.symm
    obtain ⟨b14, hb14⟩ : ∃ b, b = w4.heap.size := ⟨_, rfl⟩
    have HZ5 : Hid (Row W5 b14 Z 26) := Lib.hid (by rw [hW5, hb14]; exact row_setRow HZ0.out Z)
    have HR5 : Hid (Row W5 b3 R 26) := Lib.hid (by
      rw [hW5]
      exact row_setRowOther (HR4.out.grows ((Grows.refl _).alloc _)) (by have := HR4.out.lt; omega) Z)
    have HA5 : Hid (Row W5 b10 #[.bool true, .int .i64 4, .int .i64 (j : Int), .int .u64 (vv : Nat)] 28) := Lib.hid (by
      rw [hW5]
      exact row_setRowOther (HA4.out.grows ((Grows.refl _).alloc _)) (by have := HA4.out.lt; omega) Z)
    have HG5 : Hid (Grows w W5) := Lib.hid (by
      rw [hW5]
      exact grows_setRow (HG4.out.alloc _) (by have := HG4.out.size; omega) Z)
    clear hW5 hg4 hb10 cj lr HG2 HR2 HR3 hfin
    go_wp2_with (refine wpList_store_row (by rfl) 26 _ _ (by rfl) w4.heap.size Z (by rfl) (by rfl) 26 _ (by exact HZ0.out) HIZ.out HSZ.out HOZ.out ?_; rw [HW5.out])
    rw [← hb14]
    clear HZ0 HW5 hb14 HR4 HA4 HG4
    go_loopw [15] (fun u wl => ∃ i : Nat, i ≤ 16 ∧ u = .int .i64 i ∧ Grows W5 wl) (fun u _ => (16 - intOf u).toNat)
    case atStart => exact ⟨0, by omega, rfl, Grows.refl _⟩
    case round =>
      obtain ⟨i, hi, rfl, hgr⟩ := hrel
      have hA := HA5.out.grows hgr
      have hRr := HR5.out.grows hgr
      have hZr := HZ5.out.grows hgr
      have HGR := Lib.hid hgr
      have la := hA.lt
      have lr := hRr.lt
      have lz := hZr.lt
      have a0 : wr.cell? ⟨b10, 0, none⟩ = some (.bool true) := hA.cell 0
      by_cases hi16 : i < 16
      · have o2 : (i : Int) < 16 := by omega
        have cr : wr.cell? ⟨b3, i, none⟩ = some (.int .u64 (f i : Nat)) := by rw [hRr.cell]; exact (hN.2 i hi16).2
        have cz := hZr.cell i
        rw [HZ1.out i hi16] at cz
        clear hA hRr hZr hgr
        rw [if_neg (by first | (intro h; exact HJ0.out h.2.1) | (intro h; cases h.1))] at cz
        generalize f i = fi at cr cz
        by_cases hij : i = j
        · have hijb : ((i : Int) == (j : Int)) = true := by simp; omega
          clear hij
          go_wp2_with fail
          refine wp_region_grow (by kernel_rfl) (by kernel_rfl) ?_
          repeat (go_big_quiet_step ((fail)))
          refine wpQuiet_nil ?_
          intro _ hw'
          obtain ⟨gg, rfl⟩ := hw'
          go_wp2_with fail
          go_roundw
          case measure => simp [intOf]; omega
          case rel => exact ⟨i + 1, by omega, by simp, HGR.out.grow _⟩
        · have hijb : ((i : Int) == (j : Int)) = false := by simp; omega
          clear hij
          go_wp2_with fail
          refine wp_region_grow (by kernel_rfl) (by kernel_rfl) ?_
          repeat (go_big_quiet_step ((fail)))
          refine wpQuiet_nil ?_
          intro _ hw'
          obtain ⟨gg, rfl⟩ := hw'
          go_wp2_with fail
          go_roundw
          case measure => simp [intOf]; omega
          case rel => exact ⟨i + 1, by omega, by simp, HGR.out.grow _⟩
      · have hi0 : i = 16 := by omega
        subst hi0
        have r16 : wr.cell? ⟨b3, 16, none⟩ = some (.int .u64 pc) := by rw [hRr.cell]; exact HPC.out
        have r17 : wr.cell? ⟨b3, 17, none⟩ = some (.int .i64 m) := by rw [hRr.cell]; exact HM.out
        have z16 : wr.cell? ⟨b14, 16, none⟩ = some (.int .u64 (IntKind.u64.wrap (pc + 4))) := by rw [hZr.cell]; exact HZ2.out
        have z17 : wr.cell? ⟨b14, 17, none⟩ = some (.int .i64 m) := by rw [hZr.cell]; exact HZ3.out
        have HGW := Lib.hid (HG5.out.trans hgr)
        rw [show ((16 : Nat) : Int) = 16 from rfl]
        clear hA hRr hZr hgr HGR
        go_wp2_with fail
        go_ret
        exact ⟨by simp, HGW.out⟩
  · have hjb : ((j : Int) == 0) = false := by simp; exact hj0
    have hbits : bits .and .u64 (fj : Int) 4294967295 = (vv : Nat) := by
      have hf : fj < 18446744073709551616 := by rw [HFJ.out]; exact (hN.2 j hj16).1
      have hv : vv = fj % 4294967296 := by
        rw [HVV.out, HFJ.out]; unfold rvF; rw [if_neg hj0]
      have := and_mask_u64 (x := (fj : Int)) (n := 32) (by omega) (by omega) (by omega)
      rw [hv]
      simpa using this
    clear hj0
    go_wp2_with (refine wpList_load_row (by rfl) 26 _ (by rfl) b3 (by rfl) 26 R (0, 0) _ (by exact HR3.out) Tryd.underlying26 rfl HI.out ?_)
    refine (hfin _ (HT.out.grows (((HG2.out.alloc _).alloc _)))).mono ?_
    rintro _ w4 ⟨rfl, hg4⟩
    obtain ⟨b10, hb10⟩ : ∃ b, b = w2.heap.size := ⟨_, rfl⟩
    have HA4 := Lib.hid (((Row.new_at (b := b10) w2 #[.bool true, .int .i64 4, .int .i64 (j : Int), .int .u64 (vv : Nat)] 28 hb10).grows ((Grows.refl _).alloc (Obj.cells #[.int .u64 18446744073709551615, .int .u64 4294967295, .int .u64 255] 23))).grows hg4)
    have HR4 := Lib.hid (HR3.out.grows hg4)
    have HG4 := Lib.hid (((HG2.out.alloc (Obj.cells #[.bool true, .int .i64 4, .int .i64 (j : Int), .int .u64 (vv : Nat)] 28)).alloc (Obj.cells #[.int .u64 18446744073709551615, .int .u64 4294967295, .int .u64 255] 23)).trans hg4)
    rw [← hb10]
    have HZ0 := Lib.hid (Row.new w4 regs0.toArray 26)
    have HIZ := Lib.hid (show (Tryd.prog.info? 26).map (·.size) = some Z.size by rw [hZok.size]; kernel_rfl)
    have HSZ := Lib.hid (show regs0.toArray.size = Z.size by rw [hZok.size]; rfl)
    have HOZ := Lib.hid hZok.one
    obtain ⟨W5, hW5⟩ : ∃ W5, W5 = (w4.alloc (Obj.cells regs0.toArray 26)).setRow w4.heap.size Z := ⟨_, rfl⟩
    have HW5 := Lib.hid hW5.symm
    obtain ⟨b14, hb14⟩ : ∃ b, b = w4.heap.size := ⟨_, rfl⟩
    have HZ5 : Hid (Row W5 b14 Z 26) := Lib.hid (by rw [hW5, hb14]; exact row_setRow HZ0.out Z)
    have HR5 : Hid (Row W5 b3 R 26) := Lib.hid (by
      rw [hW5]
      exact row_setRowOther (HR4.out.grows ((Grows.refl _).alloc _)) (by have := HR4.out.lt; omega) Z)
    have HA5 : Hid (Row W5 b10 #[.bool true, .int .i64 4, .int .i64 (j : Int), .int .u64 (vv : Nat)] 28) := Lib.hid (by
      rw [hW5]
      exact row_setRowOther (HA4.out.grows ((Grows.refl _).alloc _)) (by have := HA4.out.lt; omega) Z)
    have HG5 : Hid (Grows w W5) := Lib.hid (by
      rw [hW5]
      exact grows_setRow (HG4.out.alloc _) (by have := HG4.out.size; omega) Z)
    clear hW5 hg4 hb10 cj lr HG2 HR2 HR3 hfin
    go_wp2_with (refine wpList_store_row (by rfl) 26 _ _ (by rfl) w4.heap.size Z (by rfl) (by rfl) 26 _ (by exact HZ0.out) HIZ.out HSZ.out HOZ.out ?_; rw [HW5.out])
    rw [← hb14]
    clear HZ0 HW5 hb14 HR4 HA4 HG4
    go_loopw [15] (fun u wl => ∃ i : Nat, i ≤ 16 ∧ u = .int .i64 i ∧ Grows W5 wl) (fun u _ => (16 - intOf u).toNat)
    case atStart => exact ⟨0, by omega, rfl, Grows.refl _⟩
    case round =>
      obtain ⟨i, hi, rfl, hgr⟩ := hrel
      have hA := HA5.out.grows hgr
      have hRr := HR5.out.grows hgr
      have hZr := HZ5.out.grows hgr
      have HGR := Lib.hid hgr
      have la := hA.lt
      have lr := hRr.lt
      have lz := hZr.lt
      have a0 : wr.cell? ⟨b10, 0, none⟩ = some (.bool true) := hA.cell 0
      by_cases hi16 : i < 16
      · have o2 : (i : Int) < 16 := by omega
        have cr : wr.cell? ⟨b3, i, none⟩ = some (.int .u64 (f i : Nat)) := by rw [hRr.cell]; exact (hN.2 i hi16).2
        have cz := hZr.cell i
        rw [HZ1.out i hi16] at cz
        clear hA hRr hZr hgr
        rw [if_neg (by first | (intro h; exact HJ0.out h.2.1) | (intro h; cases h.1))] at cz
        generalize f i = fi at cr cz
        by_cases hij : i = j
        · have hijb : ((i : Int) == (j : Int)) = true := by simp; omega
          clear hij
          go_wp2_with fail
          refine wp_region_grow (by kernel_rfl) (by kernel_rfl) ?_
          repeat (go_big_quiet_step ((fail)))
          refine wpQuiet_nil ?_
          intro _ hw'
          obtain ⟨gg, rfl⟩ := hw'
          go_wp2_with fail
          go_roundw
          case measure => simp [intOf]; omega
          case rel => exact ⟨i + 1, by omega, by simp, HGR.out.grow _⟩
        · have hijb : ((i : Int) == (j : Int)) = false := by simp; omega
          clear hij
          go_wp2_with fail
          refine wp_region_grow (by kernel_rfl) (by kernel_rfl) ?_
          repeat (go_big_quiet_step ((fail)))
          refine wpQuiet_nil ?_
          intro _ hw'
          obtain ⟨gg, rfl⟩ := hw'
          go_wp2_with fail
          go_roundw
          case measure => simp [intOf]; omega
          case rel => exact ⟨i + 1, by omega, by simp, HGR.out.grow _⟩
      · have hi0 : i = 16 := by omega
        subst hi0
        have r16 : wr.cell? ⟨b3, 16, none⟩ = some (.int .u64 pc) := by rw [hRr.cell]; exact HPC.out
        have r17 : wr.cell? ⟨b3, 17, none⟩ = some (.int .i64 m) := by rw [hRr.cell]; exact HM.out
        have z16 : wr.cell? ⟨b14, 16, none⟩ = some (.int .u64 (IntKind.u64.wrap (pc + 4))) := by rw [hZr.cell]; exact HZ2.out
        have z17 : wr.cell? ⟨b14, 17, none⟩ = some (.int .i64 m) := by rw [hZr.cell]; exact HZ3.out
        have HGW := Lib.hid (HG5.out.trans hgr)
        rw [show ((16 : Nat) : Int) = 16 from rfl]
        clear hA hRr hZr hgr HGR
        go_wp2_with fail
        go_ret
        exact ⟨by simp, HGW.out⟩
set_option maxRecDepth 100000 in
set_option maxHeartbeats 4000000 in
theorem sto_5 {R : Array Value} (hR : RegsOk R) {f : Nat → Nat} (hN : RegN R f) {j : Nat} (op0 reg0 s : Int) (hj : bits .and .i64 reg0 15 = j) (hj16 : j < 16) (h1 : wrap64 (op0.tmod 6 + 6) = s) (h2 : s.tmod 6 = 5) (w : World) (hT : Widths w) :
    Calls Tryd.prog 4 #[.agg R, .int .i64 op0, .int .i64 reg0] w fun r w' => r = .returned (.bool true) ∧ Grows w w' := by
  obtain ⟨henc, hdc⟩ := sto_store (op := 28) (j := j) (val_load.2.2.2.2.2 ⟨j, hj16⟩)
  have hdec := fun W => edec_28 (R := R) hdc hN (j := j) rfl hj16 rfl rfl W
  clear hdc
  obtain ⟨vv, hvv⟩ : ∃ vv, vv = rvF f j % 256 := ⟨_, rfl⟩
  rw [← hvv] at hdec
  have HVV := Lib.hid hvv
  clear hvv
  obtain ⟨pc, hpc⟩ := hR.at (i := 16) (by decide)
  obtain ⟨m, hm⟩ := hR.mode
  obtain ⟨hz1, hz2, hz3⟩ := finA_at hR hN (pc := pc) hm true hj16 (ldV 5 1)
  have hZok := finA_ok hR pc true (j : Int) (ldV 5 1)
  obtain ⟨Z, hZ⟩ : ∃ Z, Z = finA R pc true (j : Int) (ldV 5 1) := ⟨_, rfl⟩
  have hfin : ∀ W, Widths W → Calls Tryd.prog 7 #[.agg R, .agg #[.bool true, .int .i64 1, .int .i64 (j : Int), .int .u64 (vv : Nat)], .int .u64 5] W fun r w' => r = .returned (.agg Z) ∧ Grows W w' := fun W hw => by rw [hZ]; exact finish_r hR hpc true 1 (j : Int) (vv : Nat) 5 W hw
  rw [← hZ] at hz1 hz2 hz3 hZok
  have HZ1 := Lib.hid hz1
  have HZ2 := Lib.hid hz2
  have HZ3 := Lib.hid hz3
  have HPC := Lib.hid hpc
  have HM := Lib.hid hm
  have HT := Lib.hid hT
  clear hpc hT hZ hz1 hz2 hz3 hm
  go_enter Tryd.func4, Tryd.ntmps4
  go_wp2_with fail
  obtain ⟨W, hW⟩ : ∃ W, W = (w.alloc (Obj.cells R 26)).alloc (Obj.cells #[.int .i64 28, .int .i64 0, .int .i64 7, .int .i64 (j : Int), .int .i64 0] 41) := ⟨_, rfl⟩
  obtain ⟨b3, hb3⟩ : ∃ b, b = w.heap.size := ⟨_, rfl⟩
  obtain ⟨b7, hb7⟩ : ∃ b, b = w.heap.size + 1 := ⟨_, rfl⟩
  rw [← hW, ← hb7, ← hb3]
  have hG0 : Grows w W := by rw [hW]; exact ((Grows.refl _).alloc _).alloc _
  have hR0 : Row W b3 R 26 := by rw [hW]; exact (Row.new_at _ _ _ hb3).grows ((Grows.refl _).alloc _)
  clear hW hb3 hb7
  have HI := Lib.hid (show (Tryd.prog.info? 26).map (·.size) = some R.size by rw [hR.size]; kernel_rfl)
  refine (henc W).mono ?_
  rintro _ w1 ⟨rfl, hg1⟩
  have HR1 := Lib.hid (hR0.grows hg1)
  have HG1 := Lib.hid (hG0.trans hg1)
  clear hR0 hG0 hg1 henc h1 h2 hj
  go_wp2_with (refine wpList_load_row (by rfl) 26 _ (by rfl) b3 (by rfl) 26 R (0, 0) _ (by exact HR1.out) Tryd.underlying26 rfl HI.out ?_)
  refine (hdec w1).mono ?_
  rintro _ w2 ⟨rfl, hg2⟩
  have HR2 := Lib.hid (HR1.out.grows hg2)
  have HG2 := Lib.hid (HG1.out.trans hg2)
  clear hdec hg2 HR1 HG1
  have cj : w2.cell? ⟨b3, j, none⟩ = some (.int .u64 (f j : Nat)) := by rw [HR2.out.cell]; exact (hN.2 j hj16).2
  have lr := HR2.out.lt
  have o1 : (j : Int) < 16 := by omega
  have HR3 := Lib.hid ((HR2.out.grows ((Grows.refl _).alloc (Obj.cells #[.bool true, .int .i64 1, .int .i64 (j : Int), .int .u64 (vv : Nat)] 28))).grows ((Grows.refl _).alloc (Obj.cells #[.int .u64 18446744073709551615, .int .u64 4294967295, .int .u64 255] 23)))
  obtain ⟨fj, hfj⟩ : ∃ fj, fj = f j := ⟨_, rfl⟩
  rw [← hfj] at cj
  have HFJ := Lib.hid hfj
  clear hfj
  by_cases hj0 : j = 0
  · have hjb : ((j : Int) == 0) = true := by simp; exact hj0
    have hb0 : bits .and .u64 0 255 = 0 := by decide
    have hvb : ((vv : Int) != 0) = false := by
      have := HVV.out
      rw [hj0] at this
      simp [this, rvF]
    clear hj0
    go_wp2_with (refine wpList_load_row (by rfl) 26 _ (by rfl) b3 (by rfl) 26 R (0, 0) _ (by exact HR3.out) Tryd.underlying26 rfl HI.out ?_)
    refine (hfin _ (HT.out.grows (((HG2.out.alloc _).alloc _)))).mono ?_
    rintro _ w4 ⟨rfl, hg4⟩
    obtain ⟨b10, hb10⟩ : ∃ b, b = w2.heap.size := ⟨_, rfl⟩
    have HA4 := Lib.hid (((Row.new_at (b := b10) w2 #[.bool true, .int .i64 1, .int .i64 (j : Int), .int .u64 (vv : Nat)] 28 hb10).grows ((Grows.refl _).alloc (Obj.cells #[.int .u64 18446744073709551615, .int .u64 4294967295, .int .u64 255] 23))).grows hg4)
    have HR4 := Lib.hid (HR3.out.grows hg4)
    have HG4 := Lib.hid (((HG2.out.alloc (Obj.cells #[.bool true, .int .i64 1, .int .i64 (j : Int), .int .u64 (vv : Nat)] 28)).alloc (Obj.cells #[.int .u64 18446744073709551615, .int .u64 4294967295, .int .u64 255] 23)).trans hg4)
    rw [← hb10]
    have HZ0 := Lib.hid (Row.new w4 regs0.toArray 26)
    have HIZ := Lib.hid (show (Tryd.prog.info? 26).map (·.size) = some Z.size by rw [hZok.size]; kernel_rfl)
    have HSZ := Lib.hid (show regs0.toArray.size = Z.size by rw [hZok.size]; rfl)
    have HOZ := Lib.hid hZok.one
    obtain ⟨W5, hW5⟩ : ∃ W5, W5 = (w4.alloc (Obj.cells regs0.toArray 26)).setRow w4.heap.size Z := ⟨_, rfl⟩
    have HW5 := Lib.hid hW5.symm
    obtain ⟨b14, hb14⟩ : ∃ b, b = w4.heap.size := ⟨_, rfl⟩
    have HZ5 : Hid (Row W5 b14 Z 26) := Lib.hid (by rw [hW5, hb14]; exact row_setRow HZ0.out Z)
    have HR5 : Hid (Row W5 b3 R 26) := Lib.hid (by
      rw [hW5]
      exact row_setRowOther (HR4.out.grows ((Grows.refl _).alloc _)) (by have := HR4.out.lt; omega) Z)
    have HA5 : Hid (Row W5 b10 #[.bool true, .int .i64 1, .int .i64 (j : Int), .int .u64 (vv : Nat)] 28) := Lib.hid (by
      rw [hW5]
      exact row_setRowOther (HA4.out.grows ((Grows.refl _).alloc _)) (by have := HA4.out.lt; omega) Z)
    have HG5 : Hid (Grows w W5) := Lib.hid (by
      rw [hW5]
      exact grows_setRow (HG4.out.alloc _) (by have := HG4.out.size; omega) Z)
    clear hW5 hg4 hb10 cj lr HG2 HR2 HR3 hfin
    go_wp2_with (refine wpList_store_row (by rfl) 26 _ _ (by rfl) w4.heap.size Z (by rfl) (by rfl) 26 _ (by exact HZ0.out) HIZ.out HSZ.out HOZ.out ?_; rw [HW5.out])
    rw [← hb14]
    clear HZ0 HW5 hb14 HR4 HA4 HG4
    go_loopw [15] (fun u wl => ∃ i : Nat, i ≤ 16 ∧ u = .int .i64 i ∧ Grows W5 wl) (fun u _ => (16 - intOf u).toNat)
    case atStart => exact ⟨0, by omega, rfl, Grows.refl _⟩
    case round =>
      obtain ⟨i, hi, rfl, hgr⟩ := hrel
      have hA := HA5.out.grows hgr
      have hRr := HR5.out.grows hgr
      have hZr := HZ5.out.grows hgr
      have HGR := Lib.hid hgr
      have la := hA.lt
      have lr := hRr.lt
      have lz := hZr.lt
      have a0 : wr.cell? ⟨b10, 0, none⟩ = some (.bool true) := hA.cell 0
      by_cases hi16 : i < 16
      · have o2 : (i : Int) < 16 := by omega
        have cr : wr.cell? ⟨b3, i, none⟩ = some (.int .u64 (f i : Nat)) := by rw [hRr.cell]; exact (hN.2 i hi16).2
        have cz := hZr.cell i
        rw [HZ1.out i hi16] at cz
        clear hA hRr hZr hgr
        rw [if_neg (by first | (intro h; exact HJ0.out h.2.1) | (intro h; cases h.1))] at cz
        generalize f i = fi at cr cz
        by_cases hij : i = j
        · have hijb : ((i : Int) == (j : Int)) = true := by simp; omega
          clear hij
          go_wp2_with fail
          refine wp_region_grow (by kernel_rfl) (by kernel_rfl) ?_
          repeat (go_big_quiet_step ((fail)))
          refine wpQuiet_nil ?_
          intro _ hw'
          obtain ⟨gg, rfl⟩ := hw'
          go_wp2_with fail
          go_roundw
          case measure => simp [intOf]; omega
          case rel => exact ⟨i + 1, by omega, by simp, HGR.out.grow _⟩
        · have hijb : ((i : Int) == (j : Int)) = false := by simp; omega
          clear hij
          go_wp2_with fail
          refine wp_region_grow (by kernel_rfl) (by kernel_rfl) ?_
          repeat (go_big_quiet_step ((fail)))
          refine wpQuiet_nil ?_
          intro _ hw'
          obtain ⟨gg, rfl⟩ := hw'
          go_wp2_with fail
          go_roundw
          case measure => simp [intOf]; omega
          case rel => exact ⟨i + 1, by omega, by simp, HGR.out.grow _⟩
      · have hi0 : i = 16 := by omega
        subst hi0
        have r16 : wr.cell? ⟨b3, 16, none⟩ = some (.int .u64 pc) := by rw [hRr.cell]; exact HPC.out
        have r17 : wr.cell? ⟨b3, 17, none⟩ = some (.int .i64 m) := by rw [hRr.cell]; exact HM.out
        have z16 : wr.cell? ⟨b14, 16, none⟩ = some (.int .u64 (IntKind.u64.wrap (pc + 4))) := by rw [hZr.cell]; exact HZ2.out
        have z17 : wr.cell? ⟨b14, 17, none⟩ = some (.int .i64 m) := by rw [hZr.cell]; exact HZ3.out
        have HGW := Lib.hid (HG5.out.trans hgr)
        rw [show ((16 : Nat) : Int) = 16 from rfl]
        clear hA hRr hZr hgr HGR
        go_wp2_with fail
        go_ret
        exact ⟨by simp, HGW.out⟩
  · have hjb : ((j : Int) == 0) = false := by simp; exact hj0
    have hbits : bits .and .u64 (fj : Int) 255 = (vv : Nat) := by
      have hf : fj < 18446744073709551616 := by rw [HFJ.out]; exact (hN.2 j hj16).1
      have hv : vv = fj % 256 := by
        rw [HVV.out, HFJ.out]; unfold rvF; rw [if_neg hj0]
      have := and_mask_u64 (x := (fj : Int)) (n := 8) (by omega) (by omega) (by omega)
      rw [hv]
      simpa using this
    clear hj0
    go_wp2_with (refine wpList_load_row (by rfl) 26 _ (by rfl) b3 (by rfl) 26 R (0, 0) _ (by exact HR3.out) Tryd.underlying26 rfl HI.out ?_)
    refine (hfin _ (HT.out.grows (((HG2.out.alloc _).alloc _)))).mono ?_
    rintro _ w4 ⟨rfl, hg4⟩
    obtain ⟨b10, hb10⟩ : ∃ b, b = w2.heap.size := ⟨_, rfl⟩
    have HA4 := Lib.hid (((Row.new_at (b := b10) w2 #[.bool true, .int .i64 1, .int .i64 (j : Int), .int .u64 (vv : Nat)] 28 hb10).grows ((Grows.refl _).alloc (Obj.cells #[.int .u64 18446744073709551615, .int .u64 4294967295, .int .u64 255] 23))).grows hg4)
    have HR4 := Lib.hid (HR3.out.grows hg4)
    have HG4 := Lib.hid (((HG2.out.alloc (Obj.cells #[.bool true, .int .i64 1, .int .i64 (j : Int), .int .u64 (vv : Nat)] 28)).alloc (Obj.cells #[.int .u64 18446744073709551615, .int .u64 4294967295, .int .u64 255] 23)).trans hg4)
    rw [← hb10]
    have HZ0 := Lib.hid (Row.new w4 regs0.toArray 26)
    have HIZ := Lib.hid (show (Tryd.prog.info? 26).map (·.size) = some Z.size by rw [hZok.size]; kernel_rfl)
    have HSZ := Lib.hid (show regs0.toArray.size = Z.size by rw [hZok.size]; rfl)
    have HOZ := Lib.hid hZok.one
    obtain ⟨W5, hW5⟩ : ∃ W5, W5 = (w4.alloc (Obj.cells regs0.toArray 26)).setRow w4.heap.size Z := ⟨_, rfl⟩
    have HW5 := Lib.hid hW5.symm
    obtain ⟨b14, hb14⟩ : ∃ b, b = w4.heap.size := ⟨_, rfl⟩
    have HZ5 : Hid (Row W5 b14 Z 26) := Lib.hid (by rw [hW5, hb14]; exact row_setRow HZ0.out Z)
    have HR5 : Hid (Row W5 b3 R 26) := Lib.hid (by
      rw [hW5]
      exact row_setRowOther (HR4.out.grows ((Grows.refl _).alloc _)) (by have := HR4.out.lt; omega) Z)
    have HA5 : Hid (Row W5 b10 #[.bool true, .int .i64 1, .int .i64 (j : Int), .int .u64 (vv : Nat)] 28) := Lib.hid (by
      rw [hW5]
      exact row_setRowOther (HA4.out.grows ((Grows.refl _).alloc _)) (by have := HA4.out.lt; omega) Z)
    have HG5 : Hid (Grows w W5) := Lib.hid (by
      rw [hW5]
      exact grows_setRow (HG4.out.alloc _) (by have := HG4.out.size; omega) Z)
    clear hW5 hg4 hb10 cj lr HG2 HR2 HR3 hfin
    go_wp2_with (refine wpList_store_row (by rfl) 26 _ _ (by rfl) w4.heap.size Z (by rfl) (by rfl) 26 _ (by exact HZ0.out) HIZ.out HSZ.out HOZ.out ?_; rw [HW5.out])
    rw [← hb14]
    clear HZ0 HW5 hb14 HR4 HA4 HG4
    go_loopw [15] (fun u wl => ∃ i : Nat, i ≤ 16 ∧ u = .int .i64 i ∧ Grows W5 wl) (fun u _ => (16 - intOf u).toNat)
    case atStart => exact ⟨0, by omega, rfl, Grows.refl _⟩
    case round =>
      obtain ⟨i, hi, rfl, hgr⟩ := hrel
      have hA := HA5.out.grows hgr
      have hRr := HR5.out.grows hgr
      have hZr := HZ5.out.grows hgr
      have HGR := Lib.hid hgr
      have la := hA.lt
      have lr := hRr.lt
      have lz := hZr.lt
      have a0 : wr.cell? ⟨b10, 0, none⟩ = some (.bool true) := hA.cell 0
      by_cases hi16 : i < 16
      · have o2 : (i : Int) < 16 := by omega
        have cr : wr.cell? ⟨b3, i, none⟩ = some (.int .u64 (f i : Nat)) := by rw [hRr.cell]; exact (hN.2 i hi16).2
        have cz := hZr.cell i
        rw [HZ1.out i hi16] at cz
        clear hA hRr hZr hgr
        rw [if_neg (by first | (intro h; exact HJ0.out h.2.1) | (intro h; cases h.1))] at cz
        generalize f i = fi at cr cz
        by_cases hij : i = j
        · have hijb : ((i : Int) == (j : Int)) = true := by simp; omega
          clear hij
          go_wp2_with fail
          refine wp_region_grow (by kernel_rfl) (by kernel_rfl) ?_
          repeat (go_big_quiet_step ((fail)))
          refine wpQuiet_nil ?_
          intro _ hw'
          obtain ⟨gg, rfl⟩ := hw'
          go_wp2_with fail
          go_roundw
          case measure => simp [intOf]; omega
          case rel => exact ⟨i + 1, by omega, by simp, HGR.out.grow _⟩
        · have hijb : ((i : Int) == (j : Int)) = false := by simp; omega
          clear hij
          go_wp2_with fail
          refine wp_region_grow (by kernel_rfl) (by kernel_rfl) ?_
          repeat (go_big_quiet_step ((fail)))
          refine wpQuiet_nil ?_
          intro _ hw'
          obtain ⟨gg, rfl⟩ := hw'
          go_wp2_with fail
          go_roundw
          case measure => simp [intOf]; omega
          case rel => exact ⟨i + 1, by omega, by simp, HGR.out.grow _⟩
      · have hi0 : i = 16 := by omega
        subst hi0
        have r16 : wr.cell? ⟨b3, 16, none⟩ = some (.int .u64 pc) := by rw [hRr.cell]; exact HPC.out
        have r17 : wr.cell? ⟨b3, 17, none⟩ = some (.int .i64 m) := by rw [hRr.cell]; exact HM.out
        have z16 : wr.cell? ⟨b14, 16, none⟩ = some (.int .u64 (IntKind.u64.wrap (pc + 4))) := by rw [hZr.cell]; exact HZ2.out
        have z17 : wr.cell? ⟨b14, 17, none⟩ = some (.int .i64 m) := by rw [hZr.cell]; exact HZ3.out
        have HGW := Lib.hid (HG5.out.trans hgr)
        rw [show ((16 : Nat) : Int) = 16 from rfl]
        clear hA hRr hZr hgr HGR
        go_wp2_with fail
        go_ret
        exact ⟨by simp, HGW.out⟩
theorem emulateStores_walk (ns : List Int) (hl : ns.length = 16) (hns : ∀ x ∈ ns, (Lit.int .u64 x).wf = true) (pc : Int) (_ : (Lit.int .u64 pc).wf = true) (m : Int) (_ : (Lit.int .i64 m).wf = true) (op0 : Int) (_ : (Lit.int .i64 op0).wf = true) (reg0 : Int) (_ : (Lit.int .i64 reg0).wf = true) (w : World) (hT : Widths w) :
    Calls Tryd.prog 4 #[.agg (ns.map (Value.int .u64) ++ [Value.int .u64 pc, Value.int .i64 m]).toArray, .int .i64 op0, .int .i64 reg0] w fun r w' => r = .returned (.bool true) ∧ Grows w w' := by
  have e3 : IntKind.u64.min = 0 := by decide
  have e4 : IntKind.u64.max = 18446744073709551615 := by decide
  have hRO : RegsOk (ns.map (Value.int .u64) ++ [Value.int .u64 pc, Value.int .i64 m]).toArray := by
    match ns, hl with
    | [y0, y1, y2, y3, y4, y5, y6, y7, y8, y9, y10, y11, y12, y13, y14, y15], _ => exact ⟨_, _, _, _, _, _, _, _, _, _, _, _, _, _, _, _, _, _, rfl⟩
  have hN : RegN (ns.map (Value.int .u64) ++ [Value.int .u64 pc, Value.int .i64 m]).toArray (fun i => (ns.getD i 0).toNat) := by
    refine ⟨by simp [hl], fun i hi => ?_⟩
    have hin : i < ns.length := by omega
    have hm : ns.getD i 0 ∈ ns := by rw [List.getD_eq_getElem?_getD, List.getElem?_eq_getElem hin]; exact List.getElem_mem hin
    have hw := hns _ hm
    simp only [Lit.wf, e3, e4, Bool.and_eq_true, decide_eq_true_eq] at hw
    refine ⟨by show (ns.getD i 0).toNat < _; omega, ?_⟩
    rw [List.getElem?_toArray, List.getElem?_append_left (by simpa using hin), List.getElem?_map, List.getElem?_eq_getElem hin]
    show some (Value.int .u64 ns[i]) = some (Value.int .u64 ((ns.getD i 0).toNat : Nat))
    rw [List.getD_eq_getElem?_getD, List.getElem?_eq_getElem hin]
    rw [List.getD_eq_getElem?_getD, List.getElem?_eq_getElem hin] at hw
    simp only [Option.getD_some] at hw ⊢
    congr 2
    omega
  obtain ⟨j, hj, hj16⟩ : ∃ j : Nat, bits .and .i64 reg0 15 = j ∧ j < 16 := by
    have e : bits .and .i64 reg0 15 = reg0 % 16 := and_mask_i64 (n := 4) (by omega)
    rw [e]
    exact ⟨(reg0 % 16).toNat, by omega, by omega⟩
  have ht : -6 < op0.tmod 6 ∧ op0.tmod 6 < 6 := by
    have h1 := Int.tmod_lt_of_pos op0 (show (0 : Int) < 6 by omega)
    have h2 : -6 < op0.tmod 6 := by
      rcases Int.lt_or_le op0 0 with h | h
      · have := Int.tmod_lt_of_pos (-op0) (show (0 : Int) < 6 by omega)
        rw [Int.neg_tmod] at this
        omega
      · have := Int.tmod_nonneg 6 h
        omega
    exact ⟨h2, h1⟩
  obtain ⟨s, hs⟩ : ∃ s, s = op0.tmod 6 + 6 := ⟨_, rfl⟩
  have h1 : wrap64 (op0.tmod 6 + 6) = s := by
    rw [← hs]
    unfold wrap64
    omega
  have hs2 : s.tmod 6 = s % 6 := Int.tmod_eq_emod_of_nonneg (by omega)
  have hk : s % 6 = 0 ∨ s % 6 = 1 ∨ s % 6 = 2 ∨ s % 6 = 3 ∨ s % 6 = 4 ∨ s % 6 = 5 := by omega
  rcases hk with hk | hk | hk | hk | hk | hk
  · exact sto_0 hRO hN op0 reg0 s hj hj16 h1 (hs2.trans hk) w hT
  · exact sto_1 hRO hN op0 reg0 s hj hj16 h1 (hs2.trans hk) w hT
  · exact sto_2 hRO hN op0 reg0 s hj hj16 h1 (hs2.trans hk) w hT
  · exact sto_3 hRO hN op0 reg0 s hj hj16 h1 (hs2.trans hk) w hT
  · exact sto_4 hRO hN op0 reg0 s hj hj16 h1 (hs2.trans hk) w hT
  · exact sto_5 hRO hN op0 reg0 s hj hj16 h1 (hs2.trans hk) w hT
end Go.Proofs.YtjbgamifkgeodaaDoor
