/- The walk of EmulateCalls. -/
import Derived.Test.YtjbgamifkgeodaaEmuR
namespace Go.Proofs.Ytjbgamifkgeodaa
open Go Go.RowKit
set_option linter.unusedSimpArgs false
set_option linter.unusedVariables false
theorem neq_trap (c v g : Int) (w : World) : (binOp .neq 24 (.agg #[.int .i64 c, .int .u64 v, .int .u64 g]) (.agg #[.int .i64 c, .int .u64 v, .int .u64 g])).run Try.prog w = .ok (.bool false) w := by
  simp [go_sem]
set_option maxRecDepth 100000 in
set_option maxHeartbeats 4000000 in
theorem calls_law (c v g : Int) (R : Array Value) (hR : RegsOk R) (u : Int) (w : World) :
    Calls Try.prog 4 #[.agg #[.int .i64 c, .int .u64 v, .int .u64 g], .agg R, .int .u64 u] w fun r w' => r = .returned (.bool true) ∧ Grows w w' := by
  obtain ⟨x10, h10⟩ := hR.at (i := 10) (by decide)
  obtain ⟨x11, h11⟩ := hR.at (i := 11) (by decide)
  obtain ⟨x12, h12⟩ := hR.at (i := 12) (by decide)
  obtain ⟨x13, h13⟩ := hR.at (i := 13) (by decide)
  obtain ⟨x14, h14⟩ := hR.at (i := 14) (by decide)
  obtain ⟨pc, hpc⟩ := hR.at (i := 16) (by decide)
  have H10 := Lib.hid h10
  have H11 := Lib.hid h11
  have H12 := Lib.hid h12
  have H13 := Lib.hid h13
  have H14 := Lib.hid h14
  have HPC := Lib.hid hpc
  clear h10 h11 h12 h13 h14 hpc
  go_enter Try.func4, Try.ntmps4
  iterate 8 (first | go_values | go_skip | go_guarded | go_step | go_upon | go_back)
  obtain ⟨W, hW⟩ : ∃ W, W = (w.alloc (Obj.cells #[.int .i64 c, .int .u64 v, .int .u64 g] 24)).alloc (Obj.cells R 32) := ⟨_, rfl⟩
  rw [← hW]
  have hg : Grows w W := by rw [hW]; exact ((Grows.refl _).alloc _).alloc _
  obtain ⟨b0, hb0⟩ : ∃ b, b = w.heap.size := ⟨_, rfl⟩
  obtain ⟨b1, hb1⟩ : ∃ b, b = w.heap.size + 1 := ⟨_, rfl⟩
  rw [← hb1, ← hb0]
  have hT0 : Row W b0 #[.int .i64 c, .int .u64 v, .int .u64 g] 24 := by
    rw [hW]; exact (Row.new_at _ _ _ hb0).grows ((Grows.refl _).alloc _)
  have hR0 : Row W b1 R 32 := by
    rw [hW]; exact Row.new_at _ _ _ (by rw [hb1]; simp)
  clear hW hb0 hb1
  have HI := Lib.hid (show (Try.prog.info? 32).map (·.size) = some R.size by rw [hR.size]; kernel_rfl)
  have HG := Lib.hid hg
  clear hg
  go_wp2_with (refine wpList_load_row (by rfl) 32 _ (by rfl) b1 (by rfl) 32 R (0, 0) _ (by exact hR0) Try.underlying32 rfl HI.out ?_)
  refine (call_r hR H10.out H11.out H12.out H13.out H14.out _).mono ?_
  rintro _ w1 ⟨rfl, g1, rfl⟩
  obtain ⟨W1, hW1⟩ : ∃ W1, W1 = W.grow g1 := ⟨_, rfl⟩
  have hR1 : Row W1 b1 R 32 := by rw [hW1]; exact hR0.grows (Grows.of _ _)
  have hT1 : Row W1 b0 #[.int .i64 c, .int .u64 v, .int .u64 g] 24 := by rw [hW1]; exact hT0.grows (Grows.of _ _)
  have HG1 := Lib.hid (show Grows w W1 by rw [hW1]; exact HG.out.grow _)
  rw [← hW1]
  clear hW1 hR0 hT0 HG
  go_wp2_with fail
  obtain ⟨b2, hb2⟩ : ∃ b, b = W1.heap.size := ⟨_, rfl⟩
  obtain ⟨W2, hW2⟩ : ∃ W2, W2 = W1.alloc (Obj.cells #[.int .u64 x11, .int .u64 x12, .int .u64 x13, .int .u64 x14] 27) := ⟨_, rfl⟩
  rw [← hW2, ← hb2]
  have hA2 : Row W2 b2 #[.int .u64 x11, .int .u64 x12, .int .u64 x13, .int .u64 x14] 27 := by rw [hW2]; exact Row.new_at _ _ _ hb2
  have hR2 : Row W2 b1 R 32 := by rw [hW2]; exact hR1.grows ((Grows.refl _).alloc _)
  have hT2 : Row W2 b0 #[.int .i64 c, .int .u64 v, .int .u64 g] 24 := by rw [hW2]; exact hT1.grows ((Grows.refl _).alloc _)
  have HG2 := Lib.hid (show Grows w W2 by rw [hW2]; exact HG1.out.alloc _)
  clear hW2 hb2 hR1 hT1 HG1
  have t0 : W2.cell? ⟨b0, 0, none⟩ = some (.int .i64 c) := hT2.cell 0
  have t1 : W2.cell? ⟨b0, 1, none⟩ = some (.int .u64 v) := hT2.cell 1
  have t2 : W2.cell? ⟨b0, 2, none⟩ = some (.int .u64 g) := hT2.cell 2
  have r10 : W2.cell? ⟨b1, 10, none⟩ = some (.int .u64 x10) := by rw [hR2.cell]; exact H10.out
  have lt0 := hT2.lt
  have lr0 := hR2.lt
  have q := neq_trap (faultC c) v 0
  refine wp_region_grow (by kernel_rfl) (by kernel_rfl) ?_
  repeat (go_big_quiet_step ((first | (go_at_call 9; exact (fault_any _ _ _ _).mono (fun _ _ ⟨he, hw⟩ => ⟨he, (Grows.of _ _).trans hw⟩)) | (go_at_call 12; exact (rfault_any _ _ _ _).mono (fun _ _ ⟨he, hw⟩ => ⟨he, (Grows.of _ _).trans hw⟩)))))
  refine wpQuiet_nil ?_
  intro _ hw'
  obtain ⟨g2, rfl⟩ := hw'
  obtain ⟨W3, hW3⟩ : ∃ W3, W3 = W2.grow g2 := ⟨_, rfl⟩
  rw [← hW3]
  have hA3 : Row W3 b2 #[.int .u64 x11, .int .u64 x12, .int .u64 x13, .int .u64 x14] 27 := by rw [hW3]; exact hA2.grows (Grows.of _ _)
  have hR3 : Row W3 b1 R 32 := by rw [hW3]; exact hR2.grows (Grows.of _ _)
  have HG3 := Lib.hid (show Grows w W3 by rw [hW3]; exact HG2.out.grow _)
  clear hW3 hA2 hR2 hT2 HG2 t0 t1 t2 r10 lt0 lr0 q
  go_wp2_with fail
  go_loopw [9] (fun i wr => (∃ k : Nat, k ≤ 4 ∧ i = .int .i64 k) ∧ Grows W3 wr) (fun i _ => (4 - intOf i).toNat)
  case atStart => exact ⟨⟨0, by omega, rfl⟩, Grows.refl _⟩
  case round =>
    obtain ⟨⟨k, hk, rfl⟩, hgr⟩ := hrel
    have hA := hA3.grows hgr
    have hR4 := hR3.grows hgr
    clear hA3 hR3
    by_cases hlt : k < 4
    · have a0 : wr.cell? ⟨b2, 0, none⟩ = some (.int .u64 x11) := hA.cell 0
      have a1 : wr.cell? ⟨b2, 1, none⟩ = some (.int .u64 x12) := hA.cell 1
      have a2 : wr.cell? ⟨b2, 2, none⟩ = some (.int .u64 x13) := hA.cell 2
      have a3 : wr.cell? ⟨b2, 3, none⟩ = some (.int .u64 x14) := hA.cell 3
      have r11 : wr.cell? ⟨b1, 11, none⟩ = some (.int .u64 x11) := by rw [hR4.cell]; exact H11.out
      have r12 : wr.cell? ⟨b1, 12, none⟩ = some (.int .u64 x12) := by rw [hR4.cell]; exact H12.out
      have r13 : wr.cell? ⟨b1, 13, none⟩ = some (.int .u64 x13) := by rw [hR4.cell]; exact H13.out
      have r14 : wr.cell? ⟨b1, 14, none⟩ = some (.int .u64 x14) := by rw [hR4.cell]; exact H14.out
      have la := hA.lt
      have lr := hR4.lt
      have hk4 : k = 0 ∨ k = 1 ∨ k = 2 ∨ k = 3 := by omega
      clear hA hR4
      rcases hk4 with rfl | rfl | rfl | rfl
      all_goals
        go_wp2_with fail
        refine wp_region_grow (by kernel_rfl) (by kernel_rfl) ?_
        repeat (go_big_quiet_step (fail))
        refine wpQuiet_nil ?_
        intro _ hw'
        obtain ⟨g3, rfl⟩ := hw'
        go_wp2_with fail
        refine ⟨⟨?_, hgr.grow _⟩, by simp [intOf]⟩
      · exact ⟨1, by omega, rfl⟩
      · exact ⟨2, by omega, rfl⟩
      · exact ⟨3, by omega, rfl⟩
      · exact ⟨4, by omega, rfl⟩
    · have : k = 4 := by omega
      subst this
      rw [show ((4 : Nat) : Int) = 4 from rfl]
      go_wp2_with fail
      obtain ⟨b3, hb3⟩ : ∃ b, b = wr.heap.size := ⟨_, rfl⟩
      obtain ⟨W4, hW4⟩ : ∃ W4, W4 = wr.alloc (Obj.cells #[.int .i64 0, .int .i64 1, .int .i64 14, .int .i64 50] 3) := ⟨_, rfl⟩
      rw [← hW4, ← hb3]
      have hL : Row W4 b3 #[.int .i64 0, .int .i64 1, .int .i64 14, .int .i64 50] 3 := by rw [hW4]; exact Row.new_at _ _ _ hb3
      have hR5 : Row W4 b1 R 32 := by rw [hW4]; exact hR4.grows ((Grows.refl _).alloc _)
      have HG4 := Lib.hid (show Grows w W4 by rw [hW4]; exact (HG3.out.trans hgr).alloc _)
      clear hW4 hb3 hR4 hA hgr
      go_loopw [44] (fun i wr => (∃ k : Nat, k ≤ 4 ∧ i = .int .i64 k) ∧ Grows W4 wr) (fun i _ => (4 - intOf i).toNat)
      case atStart => exact ⟨⟨0, by omega, rfl⟩, Grows.refl _⟩
      case round =>
        obtain ⟨⟨k, hk, rfl⟩, hgr⟩ := hrel
        have hL5 := hL.grows hgr
        have hR6 := hR5.grows hgr
        clear hL hR5
        by_cases hlt : k < 4
        · obtain ⟨e, hke⟩ : ∃ e, wr.cell? ⟨b3, k, none⟩ = some (.int .i64 e) := by
            have hk4 : k = 0 ∨ k = 1 ∨ k = 2 ∨ k = 3 := by omega
            rcases hk4 with rfl | rfl | rfl | rfl
            all_goals exact ⟨_, by rw [hL5.cell]; rfl⟩
          have ll := hL5.lt
          have hro : ∀ w', (∃ g, w' = wr.grow g) → Row w' b1 R 32 := fun w' ⟨g, hg⟩ => by rw [hg]; exact hR6.grows (Grows.of _ _)
          have HRO := Lib.hid hro
          have q := fun W => neq_regs (answA_ok hR pc e (if e = 0 then u else 0)) W
          obtain ⟨Z, hZ⟩ : ∃ Z, Z = answA R pc e (if e = 0 then u else 0) := ⟨_, rfl⟩
          have can : ∀ W, Calls Try.prog 13 #[.agg R, .int .i64 e, .int .u64 u] W fun r w' => r = .returned (.agg Z) ∧ Grows W w' := fun W => by rw [hZ]; exact answer_r hR HPC.out e u W
          have cra : ∀ W, Calls Try.prog 14 #[.agg R, .int .i64 e, .int .u64 u] W fun r w' => r = .returned (.agg Z) ∧ Grows W w' := fun W => by rw [hZ]; exact ranswer_r hR HPC.out e u W
          rw [← hZ] at q
          clear hL5 hR6 hro hZ
          go_wp2_with fail
          refine wp_region_grow (by kernel_rfl) (by kernel_rfl) ?_
          repeat (first
            | (go_big_quiet_want; refine quiet_load_row 32 (.tmp 4) (by rfl) b1 (by rfl) 32 R _ (by exact HRO.out) Try.underlying32 (by rfl) (by exact HI.out) ?_; go_big_quiet_on; go_simp)
            | go_big_quiet_step ((first | (go_at_call 13; exact (can _).mono (fun _ _ ⟨he, hw⟩ => ⟨he, (Grows.of _ _).trans hw⟩)) | (go_at_call 14; exact (cra _).mono (fun _ _ ⟨he, hw⟩ => ⟨he, (Grows.of _ _).trans hw⟩)))))
          refine wpQuiet_nil ?_
          intro g5
          go_wp2_with fail
          exact ⟨⟨⟨k + 1, by omega, by simp⟩, hgr.grow _⟩, by simp [intOf]; omega⟩
        · have : k = 4 := by omega
          subst this
          go_wp2_with fail
          go_ret
          exact ⟨rfl, HG4.out.trans hgr⟩
theorem emulateCalls_walk (c : Int) (_ : (Lit.int .i64 c).wf = true) (v : Int) (_ : (Lit.int .u64 v).wf = true) (g : Int) (_ : (Lit.int .u64 g).wf = true) (ns : List Int) (hl : ns.length = 16) (_ : ∀ x ∈ ns, (Lit.int .u64 x).wf = true) (pc : Int) (_ : (Lit.int .u64 pc).wf = true) (m : Int) (_ : (Lit.int .i64 m).wf = true) (u : Int) (_ : (Lit.int .u64 u).wf = true) (w : World) :
    Calls Try.prog 4 #[.agg #[.int .i64 c, .int .u64 v, .int .u64 g], .agg (ns.map (Value.int .u64) ++ [Value.int .u64 pc, Value.int .i64 m]).toArray, .int .u64 u] w fun r w' => r = .returned (.bool true) ∧ Grows w w' := by
  refine calls_law c v g _ ?_ u w
  match ns, hl with
  | [y0, y1, y2, y3, y4, y5, y6, y7, y8, y9, y10, y11, y12, y13, y14, y15], _ => exact ⟨_, _, _, _, _, _, _, _, _, _, _, _, _, _, _, _, _, _, rfl⟩
end Go.Proofs.Ytjbgamifkgeodaa
