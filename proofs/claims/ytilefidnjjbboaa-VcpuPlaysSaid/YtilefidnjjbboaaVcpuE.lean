/- What the functions of the package vcpu compute: SetRegs, Regs. -/
import Derived.Test.YtilefidnjjbboaaVcpuD
namespace Go.Proofs.Ytilefidnjjbboaa
open Go Go.RowKit
set_option linter.unusedSimpArgs false
set_option linter.unusedVariables false
/-- Registers told by a function. -/
def regV (x : Nat → Int) (pc m : Int) : List Value := [.int .u64 (x 0), .int .u64 (x 1), .int .u64 (x 2), .int .u64 (x 3), .int .u64 (x 4), .int .u64 (x 5), .int .u64 (x 6), .int .u64 (x 7), .int .u64 (x 8), .int .u64 (x 9), .int .u64 (x 10), .int .u64 (x 11), .int .u64 (x 12), .int .u64 (x 13), .int .u64 (x 14), .int .u64 (x 15), .int .u64 pc, .int .i64 m]
theorem regV_ok (x : Nat → Int) (pc m : Int) : RegL (regV x pc m) := ⟨_, _, _, _, _, _, _, _, _, _, _, _, _, _, _, _, _, _, rfl⟩
theorem regV_set (x : Nat → Int) (pc m m' : Int) : ((regV x pc m).toArray.setIfInBounds 0 (.int .u64 0)).setIfInBounds 17 (.int .i64 m') = (regV (updR x 0 0) pc m').toArray := rfl
abbrev zReg : Array Value := #[.int .u64 0, .int .u64 0, .int .u64 0, .int .u64 0, .int .u64 0, .int .u64 0, .int .u64 0, .int .u64 0, .int .u64 0, .int .u64 0, .int .u64 0, .int .u64 0, .int .u64 0, .int .u64 0, .int .u64 0, .int .u64 0, .int .u64 0, .int .i64 0]
set_option maxRecDepth 100000 in
set_option maxHeartbeats 4000000 in
theorem setregs_ok {w : World} {vb fb : Nat} {g ix s co : Int} {R : List Value} {r : Nat → Int} (h : VcAt w vb fb g ix s co R r) (hs : s ≠ 2) (mv : Value) (x : Nat → Int) (pc m : Int) :
    Calls Try.prog 19 #[.pointer (some ⟨vb, 0, none⟩), mv, .agg (regV x pc m).toArray] w fun e w' => e = .returned (.int .i64 0) ∧ VcAt w' vb fb g ix s co (regV (updR x 0 0) pc (bits .and .i64 m 1)) r ∧ Chg [vb] w w' := by
  obtain ⟨m', hm'⟩ : ∃ m', m' = bits .and .i64 m 1 := ⟨_, rfl⟩
  rw [← hm']
  have HM' := Lib.hid hm'.symm
  clear hm'
  go_enter Try.func19, Try.ntmps19
  go_wp2_with fail
  obtain ⟨W1, hW1⟩ : ∃ W1, W1 = w.alloc (Obj.cells (regV x pc m).toArray 43) := ⟨_, rfl⟩
  obtain ⟨b5, hb5⟩ : ∃ b, b = w.heap.size := ⟨_, rfl⟩
  rw [← hW1, ← hb5]
  have hg1 : Grows w W1 := by rw [hW1]; exact (Grows.refl _).alloc _
  have hr1 : Row W1 b5 (regV x pc m).toArray 43 := by rw [hW1]; exact Row.new_at _ _ _ hb5
  have hv1 := h.grows hg1
  have hlt : vb ≠ b5 ∧ fb ≠ b5 := by
    have h1 := h.row.lt
    have h2 := Row.lt (show Row w fb (fileA r) 110 from h.file)
    omega
  have hst := still_ok hv1
  rw [if_neg hs] at hst
  have k17 : W1.cell? ⟨b5, 17, none⟩ = some (.int .i64 m) := by rw [hr1.cell]; rfl
  have k0 : W1.cell? ⟨b5, 0, none⟩ = some (.int .u64 (x 0)) := by rw [hr1.cell]; rfl
  have f0 := hr1.frozen 0
  have f17 := hr1.frozen 17
  obtain ⟨W2, hW2⟩ : ∃ W2, W2 = (W1.setCell ⟨b5, 0, none⟩ (.int .u64 0)).setCell ⟨b5, 17, none⟩ (.int .i64 m') := ⟨_, rfl⟩
  have HW2 := Lib.hid hW2.symm
  have hr2 : Row W2 b5 (regV (updR x 0 0) pc m').toArray 43 := by
    rw [hW2, ← regV_set x pc m m']
    exact (hr1.put 0 _).put 17 _
  have hc12 : Chg [b5] W1 W2 := by
    rw [hW2]
    exact ((Chg.refl _ _).setCell (Or.inl (by simp)) _ _).setCell (Or.inl (by simp)) _ _
  have hv2 := hv1.chg hc12 (by simp; exact hlt)
  have hR' := regV_ok (updR x 0 0) pc m'
  have HI := Lib.hid (show (Try.prog.info? 43).map (·.size) = some (regV (updR x 0 0) pc m').toArray.size by rw [List.size_toArray, hR'.len]; kernel_rfl)
  have HO := Lib.hid (regL_one hR')
  have HR2 := Lib.hid hr2
  have HTH := Lib.hid (Row.thereAt hv2.row (o := 4) (n := (regV (updR x 0 0) pc m').toArray.size) (by rw [(vcL_at hv2.reg).2.2.2.2.2, List.size_toArray, hR'.len]; omega))
  obtain ⟨W3, hW3⟩ : ∃ W3, W3 = W2.setCells vb 4 (regV (updR x 0 0) pc m').toArray.toList := ⟨_, rfl⟩
  have HW3 := Lib.hid hW3.symm
  have hc3 : Chg [vb] W2 W3 := by rw [hW3]; exact Chg.setCells (Or.inl (by simp)) _ _ _ (Chg.refl _ _)
  have hne := vf_ne hv2
  have hv3 : VcAt W3 vb fb g ix s co (regV (updR x 0 0) pc m') r := by
    refine ⟨?_, Row.chg (S := [vb]) hv2.file hc3 (by simp; exact fun e => hne e.symm), hR'⟩
    rw [hW3, ← vcL_puts hv2.reg hR']
    exact Row.puts _ _ _ _ hv2.row
  have HV3 := Lib.hid hv3
  have HC3 := Lib.hid (((Chg.of_grows hg1).step hc12 (fun k hk => Or.inr (by simp at hk; omega))).trans hc3)
  clear hW1 hb5 hg1 hr1 hv1 hlt hs h hW2 hr2 hc12 hv2 hR' hW3 hc3 hne hv3
  refine hst.mono ?_
  rintro _ _ ⟨rfl, hw⟩
  rw [hw]
  clear hw hst
  go_wp2_with (first
    | (refine wpList_load_row (by rfl) 43 _ (by rfl) b5 (by rfl) 43 (regV (updR x 0 0) pc m').toArray (0, 0) _ (by rw [HM'.out, HW2.out]; exact HR2.out) Try.underlying43 rfl HI.out ?_; rw [HM'.out, HW2.out])
    | (refine wpList_store_mid (by rfl) 43 _ _ (by rfl) vb 4 (regV (updR x 0 0) pc m').toArray (by rfl) (by rfl) HTH.out HI.out HO.out ?_; rw [HW3.out]))
  go_ret
  exact ⟨rfl, HV3.out, HC3.out⟩
theorem setregs_bad {w : World} {vb fb : Nat} {g ix co : Int} {R : List Value} {r : Nat → Int} (h : VcAt w vb fb g ix 2 co R r) (mv : Value) (x : Nat → Int) (pc m : Int) :
    Calls Try.prog 19 #[.pointer (some ⟨vb, 0, none⟩), mv, .agg (regV x pc m).toArray] w fun e w' => e = .returned (.int .i64 21) ∧ Grows w w' := by
  go_enter Try.func19, Try.ntmps19
  go_wp2_with fail
  have hg1 : Grows w (w.alloc (Obj.cells (regV x pc m).toArray 43)) := (Grows.refl _).alloc _
  have hst := still_ok (h.grows hg1)
  have HG := Lib.hid hg1
  clear hg1 h
  refine hst.mono ?_
  rintro _ _ ⟨rfl, hw⟩
  rw [hw]
  clear hw hst
  go_wp2_with fail
  go_ret
  exact ⟨rfl, HG.out⟩
set_option maxRecDepth 100000 in
set_option maxHeartbeats 4000000 in
theorem regs_own {w : World} {vb fb : Nat} {g ix s co : Int} {R : List Value} {r : Nat → Int} (h : VcAt w vb fb g ix s co R r) (hs : s ≠ 2) (mv : Value) :
    Calls Try.prog 22 #[.pointer (some ⟨vb, 0, none⟩), mv] w fun e w' => e = .returned (.agg R.toArray) ∧ Grows w w' := by
  go_enter Try.func22, Try.ntmps22
  go_wp2_with fail
  obtain ⟨W1, hW1⟩ : ∃ W1, W1 = w.alloc (Obj.cells zReg 43) := ⟨_, rfl⟩
  obtain ⟨b4, hb4⟩ : ∃ b, b = w.heap.size := ⟨_, rfl⟩
  have HW1 := Lib.hid hW1.symm
  show Calls _ _ _ (w.alloc (Obj.cells zReg 43)) _
  rw [HW1.out, ← hb4]
  have hr4 : Row W1 b4 zReg 43 := by rw [hW1]; exact Row.new_at _ _ _ hb4
  have hg1 : Grows w W1 := by rw [hW1]; exact (Grows.refl _).alloc _
  have hV1 := h.grows hg1
  have hno := vnone_ok hV1
  obtain ⟨k0, k2, k3, k22⟩ := hV1.cells
  have hd : (s == 2) = false := by simp [hs]
  have HRG := Lib.hid hV1.range
  have HIL := Lib.hid (show (Try.prog.info? 43).map (·.size) = some R.length by rw [h.reg.len]; kernel_rfl)
  have HI := Lib.hid (show (Try.prog.info? 43).map (·.size) = some R.toArray.size by rw [List.size_toArray, h.reg.len]; kernel_rfl)
  have HS := Lib.hid (show zReg.size = R.toArray.size by show 18 = R.toArray.size; rw [List.size_toArray, h.reg.len])
  have HO := Lib.hid (regL_one h.reg)
  have HF := Lib.hid (row_setRow hr4 R.toArray)
  have HGF := Lib.hid (grows_setRow hg1 (b := b4) (by omega) R.toArray)
  have HR4 := Lib.hid hr4
  clear hW1 hb4 hr4 hg1 hV1 h hs HW1
  refine (hno).mono ?_
  rintro _ _ ⟨rfl, hw⟩
  rw [hw]
  clear hw
  clear hno
  go_wp2_with (first
    | (refine wpList_load_mid (by rfl) 43 _ (by rfl) vb 4 (by rfl) R _ HRG.out Try.underlying43 (by rfl) HIL.out ?_)
    | (refine wpList_store_row (by rfl) 43 _ _ (by rfl) b4 R.toArray (by rfl) (by rfl) 43 _ (by exact HR4.out) HI.out HS.out HO.out ?_))
  exact bodyPost_ret (results_cell_row (by rfl) _ _ b4 43 R.toArray _ _ (by rfl) HF.out Try.underlying43 (by rfl) HI.out) rfl ⟨rfl, HGF.out⟩
set_option maxRecDepth 100000 in
set_option maxHeartbeats 4000000 in
theorem regs_core {w : World} {pm me N F c vb fb fb' : Nat} {cb : Nat → Nat} {st : Nat → Option (List Value)} {g ix g' rt : Int} {R R' : List Value} {r : Nat → Int} (h : MachAt w pm me N F cb st) (hN : N ≤ 8) (hc : c < N) (hst : st c = some (cxL g' R' fb' rt)) (hR' : RegL R') (hv : VcAt w vb fb g ix 2 c R r) :
    Calls Try.prog 22 #[.pointer (some ⟨vb, 0, none⟩), .pointer (some ⟨pm, 0, none⟩)] w fun e w' => e = .returned (.agg R'.toArray) ∧ Grows w w' := by
  have hcx := cxL_ok (g := g') (fb := fb') (rt := rt) hR'
  obtain ⟨cx, hcxe⟩ : ∃ cx, cx = cxL g' R' fb' rt := ⟨_, rfl⟩
  rw [← hcxe] at hcx hst
  have HCXE := Lib.hid hcxe
  clear hcxe
  go_enter Try.func22, Try.ntmps22
  go_wp2_with fail
  obtain ⟨W1, hW1⟩ : ∃ W1, W1 = w.alloc (Obj.cells zReg 43) := ⟨_, rfl⟩
  obtain ⟨b4, hb4⟩ : ∃ b, b = w.heap.size := ⟨_, rfl⟩
  have HW1 := Lib.hid hW1.symm
  show Calls _ _ _ (w.alloc (Obj.cells zReg 43)) _
  rw [HW1.out, ← hb4]
  have hr4 : Row W1 b4 zReg 43 := by rw [hW1]; exact Row.new_at _ _ _ hb4
  have hg1 : Grows w W1 := by rw [hW1]; exact (Grows.refl _).alloc _
  have hV1 := hv.grows hg1
  have hno := vnone_ok hV1
  obtain ⟨k0, k2, k3, k22⟩ := hV1.cells
  have hgt := get_some (h.grows hg1) hN hc hst hcx
  have HR4 := Lib.hid hr4
  have HG1 := Lib.hid hg1
  have HB4 := Lib.hid (show w.heap.size ≤ b4 by omega)
  clear hW1 hb4 hr4 hg1 hV1 hv h HW1
  refine (hno).mono ?_
  rintro _ _ ⟨rfl, hw⟩
  rw [hw]
  clear hw
  clear hno
  go_wp2_with fail
  refine hgt.mono ?_
  rintro _ w2 ⟨rfl, hg2⟩
  have HIA := Lib.hid (show (Try.prog.info? 61).map (·.size) = some cx.toArray.size by rw [List.size_toArray, hcx.1]; kernel_rfl)
  have HS := Lib.hid (show cx0.toArray.size = cx.toArray.size by rw [List.size_toArray, List.size_toArray, hcx.1]; rfl)
  have HO := Lib.hid hcx.2
  have HZ := Lib.hid (Row.new w2 cx0.toArray 61)
  obtain ⟨W3, hW3⟩ : ∃ W3, W3 = (w2.alloc (Obj.cells zCx 61)).setRow w2.heap.size cx.toArray := ⟨_, rfl⟩
  have HW3 := Lib.hid hW3.symm
  obtain ⟨b5, hb5⟩ : ∃ b, b = w2.heap.size := ⟨_, rfl⟩
  have hg3 : Grows w2 W3 := by rw [hW3]; exact grows_setRow ((Grows.refl _).alloc _) (Nat.le_refl _) _
  have hr5 : Row W3 w2.heap.size cx.toArray 61 := by rw [hW3]; exact row_setRow HZ.out cx.toArray
  have hr43 := (HR4.out.grows hg2).grows hg3
  have HRG := Lib.hid (show W3.rangeAt w2.heap.size 1 R' from Row.range hr5 (fun j v hv => by rw [HCXE.out]; exact cxL_regs g' R' fb' rt j v hv))
  have HIL := Lib.hid (show (Try.prog.info? 43).map (·.size) = some R'.length by rw [hR'.len]; kernel_rfl)
  have HI := Lib.hid (show (Try.prog.info? 43).map (·.size) = some R'.toArray.size by rw [List.size_toArray, hR'.len]; kernel_rfl)
  have HS4 := Lib.hid (show zReg.size = R'.toArray.size by show 18 = R'.toArray.size; rw [List.size_toArray, hR'.len])
  have HOR := Lib.hid (regL_one hR')
  have HF := Lib.hid (row_setRow hr43 R'.toArray)
  have HGF := Lib.hid (grows_setRow (HG1.out.trans (hg2.trans hg3)) HB4.out R'.toArray)
  have HR43 := Lib.hid hr43
  clear hgt hcx hW3 hb5 hg3 hr5 hr43 hg2 HR4 HG1 HB4 hst k0 k2 k3 k22 hR'
  go_wp2_with (first
    | (refine wpList_store_row (by rfl) 61 _ _ (by rfl) w2.heap.size cx.toArray (by rfl) (by rfl) 61 _ (by exact HZ.out) HIA.out HS.out HO.out ?_; rw [HW3.out])
    | (refine wpList_load_mid (by rfl) 43 _ (by rfl) w2.heap.size 1 (by rfl) R' _ HRG.out Try.underlying43 (by rfl) HIL.out ?_)
    | (refine wpList_store_row (by rfl) 43 _ _ (by rfl) b4 R'.toArray (by rfl) (by rfl) 43 _ (by exact HR43.out) HI.out HS4.out HOR.out ?_))
  exact bodyPost_ret (results_cell_row (by rfl) _ _ b4 43 R'.toArray _ _ (by rfl) HF.out Try.underlying43 (by rfl) HI.out) rfl ⟨rfl, HGF.out⟩
end Go.Proofs.Ytilefidnjjbboaa
