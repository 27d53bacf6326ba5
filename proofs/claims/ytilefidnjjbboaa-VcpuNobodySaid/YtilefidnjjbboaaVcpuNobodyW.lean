/- The walk of VcpuNobody. -/
import Derived.Test.YtilefidnjjbboaaVcpuN
namespace Go.Proofs.Ytilefidnjjbboaa
open Go Go.RowKit
set_option linter.unusedSimpArgs false
set_option linter.unusedVariables false
def actL (ki wh co : Int) (R : List Value) : List Value := [Value.int .i64 ki, Value.int .i64 wh, Value.int .i64 co] ++ R
set_option maxRecDepth 100000 in
set_option maxHeartbeats 4000000 in
theorem vcpuNobody_law (ki wh co : Int) (x : Nat → Int) (pc m : Int) (w : World) :
    Calls Try.prog 7 #[.agg (actL ki wh co (regV x pc m)).toArray] w fun r w' => r = .returned (.bool true) ∧ Grows w w' := by
  go_enter Try.func7, Try.ntmps7
  go_wp2_with fail
  obtain ⟨W1, hW1⟩ : ∃ W1, W1 = w.alloc (Obj.cells (actL ki wh co (regV x pc m)).toArray 45) := ⟨_, rfl⟩
  obtain ⟨b1, hb1⟩ : ∃ b, b = w.heap.size := ⟨_, rfl⟩
  rw [← hW1, ← hb1]
  have hg1 : Grows w W1 := by rw [hW1]; exact (Grows.refl _).alloc _
  have hr1 : Row W1 b1 (actL ki wh co (regV x pc m)).toArray 45 := by rw [hW1]; exact Row.new_at _ _ _ hb1
  clear hW1 hb1
  refine (machnew_ok W1 (N := 1) (F := 1) (by omega) (by omega) (by omega) (by omega)).mono ?_
  rintro _ w2 ⟨pm, me, cb, rfl, _, hg2, _, _⟩
  go_wp2_with fail
  obtain ⟨W3, hW3⟩ : ∃ W3, W3 = (w2.alloc (Obj.cells zVc 68)).alloc (Obj.cells #[.pointer none, .pointer (some ⟨w2.heap.size, 0, none⟩)] 26) := ⟨_, rfl⟩
  have HW3 := Lib.hid hW3.symm
  show Code.wp _ _ _ _ ((w2.alloc (Obj.cells zVc 68)).alloc (Obj.cells #[.pointer none, .pointer (some ⟨w2.heap.size, 0, none⟩)] 26))
  rw [HW3.out]
  obtain ⟨b3, hb3⟩ : ∃ b, b = w2.heap.size + 1 := ⟨_, rfl⟩
  obtain ⟨b2, hb2⟩ : ∃ b, b = w2.heap.size := ⟨_, rfl⟩
  have hr2 : Row W3 b2 zVc 68 := by rw [hW3]; exact (Row.new_at _ _ _ hb2).grows ((Grows.refl _).alloc _)
  have hr3 : Row W3 b3 #[.pointer none, .pointer (some ⟨b2, 0, none⟩)] 26 := by rw [hW3, hb2]; exact Row.new_at _ _ _ (by rw [hb3]; simp)
  have hg3 : Grows w2 W3 := by rw [hW3]; exact ((Grows.refl _).alloc _).alloc _
  rw [← hb3]
  have hr13 := (hr1.grows hg2).grows hg3
  have HG3 := Lib.hid ((hg1.trans hg2).trans hg3)
  have HR1 := Lib.hid hr13
  have HR2 := Lib.hid hr2
  have HR3 := Lib.hid hr3
  clear hg1 hr1 hg2 hW3 HW3 hb3 hb2 hr2 hr3 hg3 hr13
  have e1 := neq_regV (fun _ => 0) 0 0
  have e2 : ∀ w, (binOp .neq 56 (.agg zImg) (.agg zImg)).run Try.prog w = .ok (.bool false) w := fun w => by have := neq_img (fun _ => 0) w; rwa [← zImg_num] at this
  have e1' : ∀ w, (binOp .neq 43 (.agg zReg) (.agg zReg)).run Try.prog w = .ok (.bool false) w := e1
  clear e1
  have HIL := Lib.hid (show (Try.prog.info? 43).map (·.size) = some (regV x pc m).length by kernel_rfl)
  go_loopw [21] (fun i wr => (∃ k : Nat, k ≤ 2 ∧ i = .int .i64 k) ∧ Grows W3 wr) (fun i _ => (2 - intOf i).toNat)
  case atStart => exact ⟨⟨0, by omega, rfl⟩, Grows.refl _⟩
  case round =>
    obtain ⟨⟨k, hk, rfl⟩, hg⟩ := hrel
    by_cases hlt : k < 2
    · obtain ⟨v, hv, hN⟩ : ∃ v, wr.cell? ⟨b3, k, none⟩ = some (.pointer v) ∧ NoVc wr v := by
        have h3 := HR3.out.grows hg
        rcases (show k = 0 ∨ k = 1 by omega) with rfl | rfl
        · exact ⟨none, by rw [h3.cell]; rfl, Or.inl rfl⟩
        · exact ⟨_, by rw [h3.cell]; rfl, Or.inr ⟨b2, rfl, HR2.out.grows hg⟩⟩
      have HN := Lib.hid hN
      have HG := Lib.hid hg
      have HGK := Lib.hid hg
      clear hN hg
      go_wp2_with fail
      refine (name_nob HN.out).mono ?_
      rintro _ v1 ⟨rfl, hg⟩
      have HN := Lib.hid (HN.out.grows hg)
      have HG := Lib.hid (HG.out.trans hg)
      clear hg
      go_wp2_with fail
      refine (state_nob HN.out).mono ?_
      rintro _ v2 ⟨rfl, hg⟩
      have HN := Lib.hid (HN.out.grows hg)
      have HG := Lib.hid (HG.out.trans hg)
      clear hg
      go_wp2_with fail
      refine (enter_nob HN.out _ _ _).mono ?_
      rintro _ v3 ⟨rfl, hg⟩
      have HN := Lib.hid (HN.out.grows hg)
      have HG := Lib.hid (HG.out.trans hg)
      clear hg
      go_wp2_with fail
      refine (leave_nob HN.out _).mono ?_
      rintro _ v4 ⟨rfl, hg⟩
      have HN := Lib.hid (HN.out.grows hg)
      have HG := Lib.hid (HG.out.trans hg)
      clear hg
      go_wp2_with fail
      refine (block_nob HN.out).mono ?_
      rintro _ v5 ⟨rfl, hg⟩
      have HN := Lib.hid (HN.out.grows hg)
      have HG := Lib.hid (HG.out.trans hg)
      clear hg
      go_wp2_with fail
      refine (wake_nob HN.out).mono ?_
      rintro _ v6 ⟨rfl, hg⟩
      have HN := Lib.hid (HN.out.grows hg)
      have HG := Lib.hid (HG.out.trans hg)
      clear hg
      go_wp2_with fail
      refine (stop_nob HN.out).mono ?_
      rintro _ v7 ⟨rfl, hg⟩
      have HN := Lib.hid (HN.out.grows hg)
      have HG := Lib.hid (HG.out.trans hg)
      clear hg
      go_wp2_with fail
      refine (regs_nob HN.out _).mono ?_
      rintro _ v8 ⟨rfl, hg⟩
      have HN := Lib.hid (HN.out.grows hg)
      have HG := Lib.hid (HG.out.trans hg)
      clear hg
      have HRG := Lib.hid (Row.range (HR1.out.grows HG.out) (o := 3) (cs := regV x pc m) (fun j v hv => by
        have := mid_get [Value.int .i64 ki, Value.int .i64 wh, Value.int .i64 co] (regV x pc m) [] j v hv
        simpa [actL] using this))
      go_wp2_with (first
        | (refine wpList_wanted_load_mid (by rfl) 43 _ (by rfl) b1 3 (by rfl) (regV x pc m) _ HRG.out (by rfl) Try.underlying43 HIL.out ?_))
      refine (setregs_nob HN.out _ x pc m).mono ?_
      rintro _ v9 ⟨rfl, hg⟩
      have HN := Lib.hid (HN.out.grows hg)
      have HG := Lib.hid (HG.out.trans hg)
      clear hg
      go_wp2_with fail
      refine (file_nob HN.out).mono ?_
      rintro _ v10 ⟨rfl, hg⟩
      have HN := Lib.hid (HN.out.grows hg)
      have HG := Lib.hid (HG.out.trans hg)
      clear hg
      go_wp2_with fail
      refine (image_nob HN.out _).mono ?_
      rintro _ v11 ⟨rfl, hg⟩
      have HN := Lib.hid (HN.out.grows hg)
      have HG := Lib.hid (HG.out.trans hg)
      clear hg
      go_wp2_with fail
      refine (show Calls Try.prog 23 #[.pointer v, .agg zImg] _ _ from by rw [zImg_num]; exact (load_nob HN.out _)).mono ?_
      rintro _ v12 ⟨rfl, hg⟩
      have HGF := Lib.hid (HG.out.trans hg)
      clear HN HG hg HRG
      go_wp2_with fail
      exact ⟨⟨⟨k + 1, by omega, by simp⟩, HGF.out⟩, by simp [intOf]; omega⟩
    · have : k = 2 := by omega
      subst this
      have HG := Lib.hid (HG3.out.trans hg)
      clear hg
      go_wp2_with fail
      refine (vnew_ok wr (g := 1) (ix := 0) 0 (by omega) (by omega) (by omega) (by omega)).mono ?_
      rintro _ w5 ⟨vb, fb, rfl, hV, hg5, _, _⟩
      have HV := Lib.hid hV
      have HG5 := Lib.hid (HG.out.trans hg5)
      clear hV hg5
      go_wp2_with fail
      refine (enter_nom HV.out _ _).mono ?_
      rintro _ w6 ⟨rfl, hg6⟩
      have HV6 := Lib.hid (HV.out.grows hg6)
      have HG6 := Lib.hid (HG5.out.trans hg6)
      clear hg6 HV
      go_wp2_with fail
      refine (leave_nom HV6.out).mono ?_
      rintro _ w7 ⟨rfl, hg7⟩
      have HG7 := Lib.hid (HG6.out.trans hg7)
      clear hg7
      go_wp2_with fail
      go_ret
      exact ⟨rfl, HG7.out⟩
theorem vcpuNobody_walk (ki : Int) (_ : (Lit.int .i64 ki).wf = true) (wh : Int) (_ : (Lit.int .i64 wh).wf = true) (co : Int) (_ : (Lit.int .i64 co).wf = true) (ns : List Int) (hl : ns.length = 16) (_ : ∀ x ∈ ns, (Lit.int .u64 x).wf = true) (pc : Int) (_ : (Lit.int .u64 pc).wf = true) (m : Int) (_ : (Lit.int .i64 m).wf = true) (w : World) :
    Calls Try.prog 7 #[.agg (Value.int .i64 ki :: Value.int .i64 wh :: Value.int .i64 co :: (ns.map (Value.int .u64) ++ [Value.int .u64 pc, Value.int .i64 m])).toArray] w fun r w' => r = .returned (.bool true) ∧ Grows w w' := by
  have e : (Value.int .i64 ki :: Value.int .i64 wh :: Value.int .i64 co :: (ns.map (Value.int .u64) ++ [Value.int .u64 pc, Value.int .i64 m])) = actL ki wh co (regV (fun i => ns.getD i 0) pc m) := by
    match ns, hl with
    | [y0, y1, y2, y3, y4, y5, y6, y7, y8, y9, y10, y11, y12, y13, y14, y15], _ => rfl
  rw [e]
  exact vcpuNobody_law ki wh co _ pc m w
end Go.Proofs.Ytilefidnjjbboaa
