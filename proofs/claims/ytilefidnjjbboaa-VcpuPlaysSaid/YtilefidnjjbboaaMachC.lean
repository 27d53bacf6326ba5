/- What the functions of the package machine compute: Get and Take. -/
import Derived.Test.YtilefidnjjbboaaMachB
import Derived.Laws.ResultCell
namespace Go
theorem results_row_tmp {P : Program} {fn : Func} {p u : Tmp} {ty : TypeId} (h : fn.results = #[.cell p ty, .tmp u]) (tmps : Array Value) (w : World) (g : Nat) (t : TypeId) (cs : Array Value) (d : TypeDesc)
    (hp : tmps.getD p undef = .pointer (some ⟨g, 0, none⟩)) (hr : Row w g cs t) (hu : P.underlying ty = some d) (hd : (match d with | .struct _ | .array _ _ => true | _ => false) = true) (hi : (P.info? ty).map (·.size) = some cs.size) :
    (results fn tmps).run P w = .ok (.tuple #[.agg cs, tmps.getD u undef]) w := by
  rw [results_cell_tmp h, hp]
  simp [asAddr, run_loadVar_row w g t ty cs (0, 0) d hr hu hd hi, Result.andThen]
end Go
namespace Go.Proofs.Ytilefidnjjbboaa
open Go Go.RowKit
set_option linter.unusedSimpArgs false
set_option linter.unusedVariables false
/-- What a core may hold. -/
def CxOk (cx : List Value) : Prop := cx.length = 21 ∧ cx.toArray.all (·.oneCell') = true
theorem cx0_ok : CxOk cx0 := ⟨rfl, by simp [cx0, Value.oneCell']⟩
theorem cxL_ok {g : Int} {R : List Value} {fb : Nat} {rt : Int} (h : RegL R) : CxOk (cxL g R fb rt) := ⟨cxL_len h, cxL_one h⟩
set_option maxRecDepth 100000 in
set_option maxHeartbeats 4000000 in
theorem get_some {w : World} {pm me N F c : Nat} {cb : Nat → Nat} {st : Nat → Option (List Value)} {cx : List Value} (h : MachAt w pm me N F cb st) (hN : N ≤ 8) (hc : c < N) (hst : st c = some cx) (hx : CxOk cx) :
    Calls Try.prog 25 #[.pointer (some ⟨pm, 0, none⟩), .int .i64 c] w fun e w' => e = .returned (.tuple #[.agg cx.toArray, .bool true]) ∧ Grows w w' := by
  go_enter Try.func25, Try.ntmps25
  go_wp2_with fail
  obtain ⟨W1, hW1⟩ : ∃ W1, W1 = w.alloc (Obj.cells cx0.toArray 61) := ⟨_, rfl⟩
  obtain ⟨b4, hb4⟩ : ∃ b, b = w.heap.size := ⟨_, rfl⟩
  have HW1 := Lib.hid hW1.symm
  have hr4 : Row W1 b4 cx0.toArray 61 := by rw [hW1]; exact Row.new_at _ _ _ hb4
  have hg1 : Grows w W1 := by rw [hW1]; exact (Grows.refl _).alloc _
  have hM1 := h.grows hg1
  have hof := of_ok hM1 hN hc
  obtain ⟨kp, km, hs, ha, hrc⟩ := hM1.cores c hc
  rw [hst] at hrc
  have hrc : Row W1 (cb c) (coreA me pm cx true kp km hs ha) 88 := hrc
  obtain ⟨q1, _, _, _⟩ := coreA_at (me := me) (pm := pm) (kp := kp) (km := km) (is := true) (hs := hs) (ha := ha) hx.1
  have c23 : W1.cell? ⟨cb c, 23, none⟩ = some (.bool true) := by rw [hrc.cell]; exact q1
  have HRG := Lib.hid (Row.range hrc (o := 2) (cs := cx) (fun j v hv => mid_get [Value.pointer (some ⟨me, 0, none⟩), Value.pointer (some ⟨pm, 0, none⟩)] cx _ j v hv))
  have HI := Lib.hid (show (Try.prog.info? 61).map (·.size) = some cx.length by rw [hx.1]; kernel_rfl)
  have HIA := Lib.hid (show (Try.prog.info? 61).map (·.size) = some cx.toArray.size by rw [List.size_toArray, hx.1]; kernel_rfl)
  have HS := Lib.hid (show cx0.toArray.size = cx.toArray.size by rw [List.size_toArray, List.size_toArray, hx.1]; rfl)
  have HO := Lib.hid hx.2
  have HF := Lib.hid (row_setRow hr4 cx.toArray)
  have HGF := Lib.hid (grows_setRow hg1 (b := b4) (by omega) cx.toArray)
  have HR4 := Lib.hid hr4
  show Calls _ _ _ (w.alloc (Obj.cells cx0.toArray 61)) _
  rw [HW1.out, ← hb4]
  clear hW1 hb4 hr4 hg1 hM1 hrc h q1 hst
  refine hof.mono ?_
  rintro _ _ ⟨rfl, hw⟩
  rw [hw]
  clear hw hof
  go_wp2_with (first
    | (refine wpList_load_mid (by rfl) 61 _ (by rfl) (cb c) 2 (by rfl) cx _ HRG.out Try.underlying61 (by rfl) HI.out ?_)
    | (refine wpList_store_row (by rfl) 61 _ _ (by rfl) b4 cx.toArray (by rfl) (by rfl) 61 _ (by exact HR4.out) HIA.out HS.out HO.out ?_))
  exact bodyPost_ret (results_row_tmp (by rfl) _ _ b4 61 cx.toArray _ (by rfl) HF.out Try.underlying61 (by rfl) HIA.out) rfl ⟨rfl, HGF.out⟩
set_option maxRecDepth 100000 in
set_option maxHeartbeats 4000000 in
theorem get_none {w : World} {pm me N F c : Nat} {cb : Nat → Nat} {st : Nat → Option (List Value)} (h : MachAt w pm me N F cb st) (hN : N ≤ 8) (hc : c < N) (hst : st c = none) :
    Calls Try.prog 25 #[.pointer (some ⟨pm, 0, none⟩), .int .i64 c] w fun e w' => e = .returned (.tuple #[.agg cx0.toArray, .bool false]) ∧ Grows w w' := by
  go_enter Try.func25, Try.ntmps25
  go_wp2_with fail
  obtain ⟨W1, hW1⟩ : ∃ W1, W1 = w.alloc (Obj.cells cx0.toArray 61) := ⟨_, rfl⟩
  obtain ⟨b4, hb4⟩ : ∃ b, b = w.heap.size := ⟨_, rfl⟩
  have HW1 := Lib.hid hW1.symm
  have hr4 : Row W1 b4 cx0.toArray 61 := by rw [hW1]; exact Row.new_at _ _ _ hb4
  have hg1 : Grows w W1 := by rw [hW1]; exact (Grows.refl _).alloc _
  have hM1 := h.grows hg1
  have hof := of_ok hM1 hN hc
  obtain ⟨kp, km, hs, ha, hrc⟩ := hM1.cores c hc
  rw [hst] at hrc
  have hrc : Row W1 (cb c) (coreA me pm cx0 false kp km hs ha) 88 := hrc
  obtain ⟨q1, _, _, _⟩ := coreA_at (me := me) (pm := pm) (kp := kp) (km := km) (is := false) (hs := hs) (ha := ha) cx0_len
  have c23 : W1.cell? ⟨cb c, 23, none⟩ = some (.bool false) := by rw [hrc.cell]; exact q1
  have HIA := Lib.hid (show (Try.prog.info? 61).map (·.size) = some cx0.toArray.size by kernel_rfl)
  have HO := Lib.hid cx0_ok.2
  have HF := Lib.hid (row_setRow hr4 cx0.toArray)
  have HGF := Lib.hid (grows_setRow hg1 (b := b4) (by omega) cx0.toArray)
  have HR4 := Lib.hid hr4
  show Calls _ _ _ (w.alloc (Obj.cells cx0.toArray 61)) _
  rw [HW1.out, ← hb4]
  clear hW1 hb4 hr4 hg1 hM1 hrc h q1 hst
  refine hof.mono ?_
  rintro _ _ ⟨rfl, hw⟩
  rw [hw]
  clear hw hof
  go_wp2_with (first
    | (refine wpList_store_row (by rfl) 61 _ _ (by rfl) b4 cx0.toArray (by rfl) (by rfl) 61 _ (by exact HR4.out) HIA.out (by rfl) HO.out ?_))
  exact bodyPost_ret (results_row_tmp (by rfl) _ _ b4 61 cx0.toArray _ (by rfl) HF.out Try.underlying61 (by rfl) HIA.out) rfl ⟨rfl, HGF.out⟩
set_option maxRecDepth 100000 in
set_option maxHeartbeats 4000000 in
theorem take_ok {w : World} {pm me N F c : Nat} {cb : Nat → Nat} {st : Nat → Option (List Value)} {cx : List Value} (h : MachAt w pm me N F cb st) (hN : N ≤ 8) (hc : c < N) (hst : st c = some cx) (hx : CxOk cx) :
    Calls Try.prog 34 #[.pointer (some ⟨pm, 0, none⟩), .int .i64 c] w fun e w' => e = .returned (.tuple #[.agg cx.toArray, .int .i64 0]) ∧ MachAt w' pm me N F cb (fun i => if i = c then none else st i) ∧ Chg [cb c] w w' := by
  go_enter Try.func34, Try.ntmps34
  go_wp2_with fail
  obtain ⟨W1, hW1⟩ : ∃ W1, W1 = w.alloc (Obj.cells cx0.toArray 61) := ⟨_, rfl⟩
  obtain ⟨b4, hb4⟩ : ∃ b, b = w.heap.size := ⟨_, rfl⟩
  have HW1 := Lib.hid hW1.symm
  have hr4 : Row W1 b4 cx0.toArray 61 := by rw [hW1]; exact Row.new_at _ _ _ hb4
  have hg1 : Grows w W1 := by rw [hW1]; exact (Grows.refl _).alloc _
  have hM1 := h.grows hg1
  have hof := of_ok hM1 hN hc
  obtain ⟨kp, km, hs, ha, hrc⟩ := hM1.cores c hc
  have hne4 : cb c ≠ b4 := by have := (h.cores c hc).lt; omega
  rw [hst] at hrc
  have hrc : Row W1 (cb c) (coreA me pm cx true kp km hs ha) 88 := hrc
  obtain ⟨q1, _, _, q4⟩ := coreA_at (me := me) (pm := pm) (kp := kp) (km := km) (is := true) (hs := hs) (ha := ha) hx.1
  have c23 : W1.cell? ⟨cb c, 23, none⟩ = some (.bool true) := by rw [hrc.cell]; exact q1
  have HRG := Lib.hid (Row.range hrc (o := 2) (cs := cx) (fun j v hv => mid_get [Value.pointer (some ⟨me, 0, none⟩), Value.pointer (some ⟨pm, 0, none⟩)] cx _ j v hv))
  have HI := Lib.hid (show (Try.prog.info? 61).map (·.size) = some cx.length by rw [hx.1]; kernel_rfl)
  have HIA := Lib.hid (show (Try.prog.info? 61).map (·.size) = some cx.toArray.size by rw [List.size_toArray, hx.1]; kernel_rfl)
  have HI0 := Lib.hid (show (Try.prog.info? 61).map (·.size) = some cx0.toArray.size by kernel_rfl)
  have HS := Lib.hid (show cx0.toArray.size = cx.toArray.size by rw [List.size_toArray, List.size_toArray, hx.1]; rfl)
  have HO := Lib.hid hx.2
  have HO0 := Lib.hid cx0_ok.2
  have HR4 := Lib.hid hr4
  have HM1 := Lib.hid hM1
  have HG1 := Lib.hid hg1
  have HRC := Lib.hid hrc
  have HB4 := Lib.hid (show w.heap.size ≤ b4 by omega)
  have HLT := Lib.hid (show pm ≠ b4 ∧ me ≠ b4 ∧ ∀ i, i < N → cb i ≠ b4 by
    obtain ⟨_, _, _, hh, _⟩ := h.hd
    have := hh.lt
    obtain ⟨_, hq⟩ := h.mem
    have := hq.lt
    exact ⟨by omega, by omega, fun i hi => by have := (h.cores i hi).lt; omega⟩)
  show Calls _ _ _ (w.alloc (Obj.cells cx0.toArray 61)) _
  rw [HW1.out, ← hb4]
  clear hW1 hb4 hr4 hg1 hM1 hrc h q1 hst
  refine hof.mono ?_
  rintro _ _ ⟨rfl, hw⟩
  rw [hw]
  clear hw hof
  obtain ⟨W2, hW2⟩ : ∃ W2, W2 = (W1.alloc (Obj.cells #[.int .i64 0, .int .u64 0, .int .u64 0, .int .u64 0, .int .u64 0, .int .u64 0, .int .u64 0, .int .u64 0, .int .u64 0, .int .u64 0, .int .u64 0, .int .u64 0, .int .u64 0, .int .u64 0, .int .u64 0, .int .u64 0, .int .u64 0, .int .u64 0, .int .i64 0, .pointer none, .int .i64 0] 61)).setRow W1.heap.size cx.toArray := ⟨_, rfl⟩
  have HZ1 := Lib.hid (Row.new W1 cx0.toArray 61)
  have HW2 := Lib.hid hW2.symm
  obtain ⟨b8, hb8⟩ : ∃ b, b = W1.heap.size := ⟨_, rfl⟩
  have hr8 : Row W2 b8 cx.toArray 61 := by rw [hW2, hb8]; exact row_setRow HZ1.out cx.toArray
  have hg12 : Grows W1 W2 := by rw [hW2]; exact grows_setRow ((Grows.refl _).alloc _) (Nat.le_refl _) _
  have hrc2 := HRC.out.grows hg12
  have hr42 := HR4.out.grows hg12
  have hne8 : cb c ≠ b8 ∧ b4 ≠ b8 := by have := HRC.out.lt; have := HR4.out.lt; omega
  obtain ⟨W4, hW4⟩ : ∃ W4, W4 = W2.setCells (cb c) 2 cx0.toArray.toList := ⟨_, rfl⟩
  have HW4 := Lib.hid hW4.symm
  have hc24 : Chg [cb c] W2 W4 := by rw [hW4]; exact Chg.setCells (Or.inl (by simp)) _ _ _ (Chg.refl _ _)
  have hrc4 : Row W4 (cb c) (coreA me pm cx0 true kp km hs ha) 88 := by
    rw [hW4, ← coreA_puts (cx := cx) (by rw [hx.1]; rfl)]
    exact Row.puts _ _ _ _ hrc2
  obtain ⟨k1, k2, k3, k4⟩ := coreA_at (me := me) (pm := pm) (kp := kp) (km := km) (is := true) (hs := hs) (ha := ha) cx0_len
  have e23 : W4.cell? ⟨cb c, 23, none⟩ = some (.bool true) := by rw [hrc4.cell]; exact k1
  have e26 : W4.cell? ⟨cb c, 26, none⟩ = some (.bool hs) := by rw [hrc4.cell]; exact k2
  have e27 : W4.cell? ⟨cb c, 27, none⟩ = some (.int .u64 ha) := by rw [hrc4.cell]; exact k3
  have f23 := hrc4.frozen 23
  have f26 := hrc4.frozen 26
  have f27 := hrc4.frozen 27
  have HTH := Lib.hid (Row.thereAt hrc2 (o := 2) (n := cx0.toArray.size) (by rw [q4]; decide))
  obtain ⟨W7, hW7⟩ : ∃ W7, W7 = ((W4.setCell ⟨cb c, 23, none⟩ (.bool false)).setCell ⟨cb c, 26, none⟩ (.bool false)).setCell ⟨cb c, 27, none⟩ (.int .u64 0) := ⟨_, rfl⟩
  have HW7 := Lib.hid hW7.symm
  have hc47 : Chg [cb c] W4 W7 := by
    rw [hW7]
    exact (((Chg.refl _ _).setCell (b := cb c) (Or.inl (by simp)) 23 (.bool false)).setCell (b := cb c) (Or.inl (by simp)) 26 (.bool false)).setCell (b := cb c) (Or.inl (by simp)) 27 (.int .u64 0)
  have hr7 := ((hrc4.put 23 (.bool false)).put 26 (.bool false)).put 27 (.int .u64 0)
  rw [coreA_set cx0_len, ← hW7] at hr7
  have hc27 := hc24.trans hc47
  have HR8 := Lib.hid (hr8.chg hc27 (by simp; exact fun e => hne8.1 e.symm))
  have hr47 := hr42.chg hc27 (by simp; exact fun e => hne4 e.symm)
  have HR47 := Lib.hid hr47
  have HF := Lib.hid (row_setRow hr47 cx.toArray)
  have hM7 := (HM1.out.grows hg12).put hc27 hc (s := none) ⟨kp, km, false, 0, hr7⟩
  have hc07 : Chg [cb c] w W7 := (Chg.of_grows (HG1.out.trans hg12)).trans hc27
  have hpb4 : pm ≠ b4 ∧ me ≠ b4 ∧ ∀ i, i < N → cb i ≠ b4 := HLT.out
  have HMF := Lib.hid (hM7.chg (S := [b4]) ((Chg.refl _ _).setRow (b := b4) (Or.inl (by simp)) cx.toArray) (by simp; exact hpb4) (fun b hb => by simp at hb; subst hb; exact ⟨_, _, hr47, by decide⟩))
  have HCF := Lib.hid (hc07.setRow (b := b4) (Or.inr HB4.out) cx.toArray)
  clear hW2 hW4 hW7 hr8 hg12 hrc2 hr42 hc24 hrc4 k1 k2 k3 k4 hc47 hr7 hc27 hr47 hM7 hc07 hpb4 HRC HM1 HG1 hne8 hne4 q4
  go_wp2_with (first
    | (refine wpList_load_mid (by rfl) 61 _ (by rfl) (cb c) 2 (by rfl) cx _ HRG.out Try.underlying61 (by rfl) HI.out ?_)
    | (refine wpList_store_row (by rfl) 61 _ _ (by rfl) W1.heap.size cx.toArray (by rfl) (by rfl) 61 _ (by exact HZ1.out) HIA.out HS.out HO.out ?_; rw [HW2.out])
    | (refine wpList_store_mid (by rfl) 61 _ _ (by rfl) (cb c) 2 cx0.toArray (by rfl) (by rfl) HTH.out HI0.out HO0.out ?_; rw [HW4.out])
    | (refine wpList_load_row (by rfl) 61 _ (by rfl) W1.heap.size (by rfl) 61 cx.toArray (0, 0) _ (by rw [HW7.out, ← hb8]; exact HR8.out) Try.underlying61 rfl HIA.out ?_; rw [HW7.out])
    | (refine wpList_store_row (by rfl) 61 _ _ (by rfl) b4 cx.toArray (by rfl) (by rfl) 61 _ (by exact HR47.out) HIA.out HS.out HO.out ?_))
  exact bodyPost_ret (results_row_tmp (by rfl) _ _ b4 61 cx.toArray _ (by rfl) HF.out Try.underlying61 (by rfl) HIA.out) rfl ⟨rfl, HMF.out, HCF.out⟩
end Go.Proofs.Ytilefidnjjbboaa
