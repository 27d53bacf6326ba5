/- What the functions of the package vcpu compute: Leave. -/
import Derived.Test.YtilefidnjjbboaaVcpuB
namespace Go.Proofs.Ytilefidnjjbboaa
open Go Go.RowKit
set_option linter.unusedSimpArgs false
set_option linter.unusedVariables false
theorem vcL_puts {g ix st co : Int} {R R' : List Value} {fb : Nat} (h : RegL R) (h' : RegL R') : putA (vcL g ix st co R fb).toArray 4 R' = (vcL g ix st co R' fb).toArray :=
  putA_mid [Value.int .i64 g, Value.int .i64 ix, Value.int .i64 st, Value.int .i64 co] R _ R' (by rw [h.len, h'.len])
theorem regL_one {R : List Value} (h : RegL R) : R.toArray.all (·.oneCell') = true := by
  obtain ⟨x0, x1, x2, x3, x4, x5, x6, x7, x8, x9, x10, x11, x12, x13, x14, x15, pc, m, rfl⟩ := h; simp [Value.oneCell']
theorem cxL_regs (g : Int) (R : List Value) (fb : Nat) (rt : Int) (j : Nat) (v : Value) (h : R[j]? = some v) : (cxL g R fb rt).toArray[1 + j]? = some v :=
  mid_get [Value.int .i64 g] R _ j v h
abbrev zCx : Array Value := #[.int .i64 0, .int .u64 0, .int .u64 0, .int .u64 0, .int .u64 0, .int .u64 0, .int .u64 0, .int .u64 0, .int .u64 0, .int .u64 0, .int .u64 0, .int .u64 0, .int .u64 0, .int .u64 0, .int .u64 0, .int .u64 0, .int .u64 0, .int .u64 0, .int .i64 0, .pointer none, .int .i64 0]
set_option maxRecDepth 100000 in
set_option maxHeartbeats 4000000 in
theorem leave_foreign {w : World} {pm me N F c vb fb fb' : Nat} {cb : Nat → Nat} {st : Nat → Option (List Value)} {g ix g' rt : Int} {R R' : List Value} {r r' : Nat → Int} (h : MachAt w pm me N F cb st) (hN1 : 1 ≤ N) (hN : N ≤ 8) (hc : c < N) (hst : st c = some (cxL g' R' fb' rt)) (hR' : RegL R') (hv : VcAt w vb fb g ix 2 c R r) (hf' : File w fb' r')
    (hbb : ∀ w ra rb, File w fb' ra → File w fb rb → (binOp .eql 112 (.agg #[.int .i64 g', .pointer (some ⟨fb', 0, none⟩)]) (.agg #[.int .i64 g, .pointer (some ⟨fb, 0, none⟩)])).run Try.prog w = .ok (.bool false) w) :
    Calls Try.prog 11 #[.pointer (some ⟨vb, 0, none⟩), .pointer (some ⟨pm, 0, none⟩)] w fun e w' => e = .returned (.int .i64 14) ∧ Grows w w' := by
  have hno := vnone_ok hv
  have hcs := cores_ok h
  obtain ⟨c0, c2, c3, c22⟩ := hv.cells
  have hn0 : ((N : Int) == 0) = false := by simp; omega
  go_enter Try.func11, Try.ntmps11
  go_wp2_with fail
  refine (hno).mono ?_
  rintro _ _ ⟨rfl, hw⟩
  rw [hw]
  clear hw
  go_wp2_with fail
  refine (hcs).mono ?_
  rintro _ _ ⟨rfl, hw⟩
  rw [hw]
  clear hw
  have hon := on_some h hN hc hst hR' hv hf' hbb
  go_wp2_with fail
  refine hon.mono ?_
  rintro _ w2 ⟨rfl, hg2⟩
  have HM2 := Lib.hid (h.grows hg2)
  have HV2 := Lib.hid (hv.grows hg2)
  have HG2 := Lib.hid hg2
  have hcx := cxL_ok (g := g') (fb := fb') (rt := rt) hR'
  obtain ⟨cx, hcxe⟩ : ∃ cx, cx = cxL g' R' fb' rt := ⟨_, rfl⟩
  rw [← hcxe] at hcx hst ⊢
  have HCXE := Lib.hid hcxe
  have HIA := Lib.hid (show (Try.prog.info? 61).map (·.size) = some cx.toArray.size by rw [List.size_toArray, hcx.1]; kernel_rfl)
  have HS := Lib.hid (show cx0.toArray.size = cx.toArray.size by rw [List.size_toArray, List.size_toArray, hcx.1]; rfl)
  have HO := Lib.hid hcx.2
  have HZ := Lib.hid (Row.new w2 cx0.toArray 61)
  obtain ⟨W3, hW3⟩ : ∃ W3, W3 = (w2.alloc (Obj.cells zCx 61)).setRow w2.heap.size cx.toArray := ⟨_, rfl⟩
  have HW3 := Lib.hid hW3.symm
  have hg3 : Grows w2 W3 := by rw [hW3]; exact grows_setRow ((Grows.refl _).alloc _) (Nat.le_refl _) _
  have HM3 := Lib.hid (HM2.out.grows hg3)
  have HV3 := Lib.hid (HV2.out.grows hg3)
  have HG3 := Lib.hid (HG2.out.trans hg3)
  clear hon hcxe hW3 hg3 hg2 c0 c2 c3 c22 hno hcs h hv hf' hbb
  go_wp2_with (first
    | (refine wpList_store_row (by rfl) 61 _ _ (by rfl) w2.heap.size cx.toArray (by rfl) (by rfl) 61 _ (by exact HZ.out) HIA.out HS.out HO.out ?_; rw [HW3.out]))
  go_ret
  exact ⟨rfl, HG3.out⟩
set_option maxRecDepth 100000 in
set_option maxHeartbeats 4000000 in
theorem leave_ok {w : World} {pm me N F c vb fb fb' : Nat} {cb : Nat → Nat} {st : Nat → Option (List Value)} {g ix g' rt : Int} {R R' : List Value} {r r' : Nat → Int} (h : MachAt w pm me N F cb st) (hN1 : 1 ≤ N) (hN : N ≤ 8) (hc : c < N) (hst : st c = some (cxL g' R' fb' rt)) (hR' : RegL R') (hv : VcAt w vb fb g ix 2 c R r) (hf' : File w fb' r')
    (hbb : ∀ w ra rb, File w fb' ra → File w fb rb → (binOp .eql 112 (.agg #[.int .i64 g', .pointer (some ⟨fb', 0, none⟩)]) (.agg #[.int .i64 g, .pointer (some ⟨fb, 0, none⟩)])).run Try.prog w = .ok (.bool true) w) :
    Calls Try.prog 11 #[.pointer (some ⟨vb, 0, none⟩), .pointer (some ⟨pm, 0, none⟩)] w fun e w' => e = .returned (.int .i64 0) ∧ MachAt w' pm me N F cb (fun i => if i = c then none else st i) ∧ VcAt w' vb fb g ix 1 (-1) R' r ∧ Chg [cb c, vb] w w' := by
  have hno := vnone_ok hv
  have hcs := cores_ok h
  obtain ⟨c0, c2, c3, c22⟩ := hv.cells
  have hn0 : ((N : Int) == 0) = false := by simp; omega
  go_enter Try.func11, Try.ntmps11
  go_wp2_with fail
  refine (hno).mono ?_
  rintro _ _ ⟨rfl, hw⟩
  rw [hw]
  clear hw
  go_wp2_with fail
  refine (hcs).mono ?_
  rintro _ _ ⟨rfl, hw⟩
  rw [hw]
  clear hw
  have hon := on_some h hN hc hst hR' hv hf' hbb
  go_wp2_with fail
  refine hon.mono ?_
  rintro _ w2 ⟨rfl, hg2⟩
  have HM2 := Lib.hid (h.grows hg2)
  have HV2 := Lib.hid (hv.grows hg2)
  have HG2 := Lib.hid hg2
  have hcx := cxL_ok (g := g') (fb := fb') (rt := rt) hR'
  obtain ⟨cx, hcxe⟩ : ∃ cx, cx = cxL g' R' fb' rt := ⟨_, rfl⟩
  rw [← hcxe] at hcx hst ⊢
  have HCXE := Lib.hid hcxe
  have HIA := Lib.hid (show (Try.prog.info? 61).map (·.size) = some cx.toArray.size by rw [List.size_toArray, hcx.1]; kernel_rfl)
  have HS := Lib.hid (show cx0.toArray.size = cx.toArray.size by rw [List.size_toArray, List.size_toArray, hcx.1]; rfl)
  have HO := Lib.hid hcx.2
  have HZ := Lib.hid (Row.new w2 cx0.toArray 61)
  obtain ⟨W3, hW3⟩ : ∃ W3, W3 = (w2.alloc (Obj.cells zCx 61)).setRow w2.heap.size cx.toArray := ⟨_, rfl⟩
  have HW3 := Lib.hid hW3.symm
  have hg3 : Grows w2 W3 := by rw [hW3]; exact grows_setRow ((Grows.refl _).alloc _) (Nat.le_refl _) _
  have HM3 := Lib.hid (HM2.out.grows hg3)
  have HV3 := Lib.hid (HV2.out.grows hg3)
  have HG3 := Lib.hid (HG2.out.trans hg3)
  clear hon hcxe hW3 hg3 hg2 c0 c2 c3 c22 hno hcs h hv hf' hbb
  have HAP := Lib.hid (apart_of HM3.out HV3.out)
  obtain ⟨k0, k2, k3, k22⟩ := HV3.out.cells
  have htk := take_ok HM3.out hN hc hst hcx
  go_wp2_with (first
    | (refine wpList_store_row (by rfl) 61 _ _ (by rfl) w2.heap.size cx.toArray (by rfl) (by rfl) 61 _ (by exact HZ.out) HIA.out HS.out HO.out ?_; rw [HW3.out]))
  refine htk.mono ?_
  rintro _ w5 ⟨rfl, hM5, hC5⟩
  have hV5 := HV3.out.chg hC5 (by simp; exact ⟨fun e => (HAP.out.a2 c hc).1 e.symm, fun e => (HAP.out.a2 c hc).2 e.symm⟩)
  have HZ5 := Lib.hid (Row.new w5 cx0.toArray 61)
  obtain ⟨W6, hW6⟩ : ∃ W6, W6 = (w5.alloc (Obj.cells zCx 61)).setRow w5.heap.size cx.toArray := ⟨_, rfl⟩
  have HW6 := Lib.hid hW6.symm
  have hg6 : Grows w5 W6 := by rw [hW6]; exact grows_setRow ((Grows.refl _).alloc _) (Nat.le_refl _) _
  have hr7 : Row W6 w5.heap.size cx.toArray 61 := by rw [hW6]; exact row_setRow HZ5.out cx.toArray
  have hV6 := hV5.grows hg6
  have hM6 := hM5.grows hg6
  have hRG : W6.rangeAt w5.heap.size 1 R' := Row.range hr7 (fun j v hv => by rw [HCXE.out]; exact cxL_regs g' R' fb' rt j v hv)
  have HRG := Lib.hid hRG
  obtain ⟨W7, hW7⟩ : ∃ W7, W7 = W6.setCells vb 4 R'.toArray.toList := ⟨_, rfl⟩
  have HW7 := Lib.hid hW7.symm
  have hc7 : Chg [vb] W6 W7 := by rw [hW7]; exact Chg.setCells (Or.inl (by simp)) _ _ _ (Chg.refl _ _)
  have hne := vf_ne hV6
  have hV7 : VcAt W7 vb fb g ix 2 c R' r := by
    refine ⟨?_, Row.chg (S := [vb]) hV6.file hc7 (by simp; exact fun e => hne e.symm), hR'⟩
    rw [hW7, ← vcL_puts hV6.reg hR']
    exact Row.puts _ _ _ _ hV6.row
  obtain ⟨m0, m2, m3, m22⟩ := hV7.cells
  have f2 := hV7.row.frozen 2
  have f3 := hV7.row.frozen 3
  have HTH := Lib.hid (Row.thereAt hV6.row (o := 4) (n := R'.toArray.size) (by rw [(vcL_at hV6.reg).2.2.2.2.2, List.size_toArray, hR'.len]; omega))
  have HIR := Lib.hid (show (Try.prog.info? 43).map (·.size) = some R'.toArray.size by rw [List.size_toArray, hR'.len]; kernel_rfl)
  have HIL := Lib.hid (show (Try.prog.info? 43).map (·.size) = some R'.length by rw [hR'.len]; kernel_rfl)
  have HOR := Lib.hid (regL_one hR')
  have HV8 := Lib.hid (hV7.turn 1 (-1))
  have hc78 : Chg [vb] W7 ((W7.setCell ⟨vb, 2, none⟩ (.int .i64 1)).setCell ⟨vb, 3, none⟩ (.int .i64 (-1))) := ((Chg.refl _ _).setCell (Or.inl (by simp)) _ _).setCell (Or.inl (by simp)) _ _
  have HM8 := Lib.hid (hM6.chg (hc7.trans hc78) (by simp; exact ⟨HAP.out.a1.1, HAP.out.a1.2.1, fun i hi => (HAP.out.a2 i hi).1⟩) (fun b hb => by simp at hb; subst hb; exact ⟨_, _, hV6.row, by decide⟩))
  have HC8 := Lib.hid (((Chg.of_grows HG3.out).trans (hC5.weaken (T := [cb c, vb]) (by simp))).trans ((Chg.of_grows hg6).trans ((hc7.trans hc78).weaken (T := [cb c, vb]) (by simp))))
  clear htk hM5 hC5 hV5 hW6 hg6 hr7 hV6 hM6 hRG hW7 hc7 hV7 hc78 HM2 HV2 HG2 HM3 HV3 HG3 HZ HW3 k0 k2 k3 k22 m0 m22 hne
  go_wp2_with (first
    | (refine wpList_store_row (by rfl) 61 _ _ (by rfl) w5.heap.size cx.toArray (by rfl) (by rfl) 61 _ (by exact HZ5.out) HIA.out HS.out HO.out ?_; rw [HW6.out])
    | (refine wpList_load_mid (by rfl) 43 _ (by rfl) w5.heap.size 1 (by rfl) R' _ HRG.out Try.underlying43 (by rfl) HIL.out ?_)
    | (refine wpList_store_mid (by rfl) 43 _ _ (by rfl) vb 4 R'.toArray (by rfl) (by rfl) HTH.out HIR.out HOR.out ?_; rw [HW7.out]))
  go_ret
  exact ⟨rfl, HM8.out, HV8.out, HC8.out⟩
end Go.Proofs.Ytilefidnjjbboaa
