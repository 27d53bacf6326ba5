/- frames: Free. -/
import Derived.Test.YtlchlklbjocliaaDoorFrD
import Derived.StillTailTactics
namespace Go.Proofs.YtlchlklbjocliaaDoor
open Go Go.RowKit
set_option linter.unusedSimpArgs false
set_option linter.unusedVariables false
set_option maxRecDepth 100000
theorem wrE_ok {n j o : Nat} {T O : Nat → Nat} (hj : j < n) (hT : 0 < T j) (hO : O j = o) (ho : o < 17) : wrE n T O j o (if isOwn (o : Int) then 0 else 2) = 0 := by
  rw [if_pos (show isOwn (o : Int) from ⟨by omega, by omega⟩)]
  unfold wrE; rw [if_neg (by simp), if_neg (by omega), Int.toNat_natCast, if_neg (by omega)]
theorem Free_bad {w : World} {p bt bw n first low : Nat} {T O : Nat → Nat} {quo : Nat → Int} (h : FrAt w p bt bw n first T O quo low) (x who : Int) (he : wrE n T O x who (if isOwn who then 0 else 2) ≠ 0) :
    Calls Tryd.prog 42 #[.pointer (some ⟨p, 0, none⟩), .int .i64 x, .int .i64 who] w fun r w' => r = .returned (.tuple #[.bool false, .int .i64 (wrE n T O x who (if isOwn who then 0 else 2))]) ∧ Grows w w' := by
  have hg : Grows w (w.alloc (Obj.cells #[.int .i64 who] 3)) := (Grows.refl _).alloc _
  have hr : Row (w.alloc (Obj.cells #[.int .i64 who] 3)) w.heap.size #[.int .i64 who] 3 := Row.new w _ _
  have ho := wrong_gen (h.grows hg) x who _ (by omega) (by omega) (owned_1 (h.grows hg) who (hr.cell 0)) (hr.cell 0) hr.lt
  generalize wrE n T O x who (if isOwn who then 0 else 2) = e at *
  have hb : (e != 0) = true := by simp; exact he
  clear h he hr
  go_enter Tryd.func42, Tryd.ntmps42
  go_wp2_with fail
  refine ho.mono ?_
  rintro _ w2 ⟨rfl, hg2⟩
  go_wp2_with fail
  go_ret2
  exact ⟨rfl, hg.trans hg2⟩
theorem Free_first {w : World} {p bt bw n first low j o : Nat} {T O : Nat → Nat} {quo : Nat → Int} (h : FrAt w p bt bw n first T O quo low) (hj : j < n) (hT : 0 < T j) (hO : O j = o) (hf : j < first) :
    Calls Tryd.prog 42 #[.pointer (some ⟨p, 0, none⟩), .int .i64 j, .int .i64 o] w fun r w' => r = .returned (.tuple #[.bool false, .int .i64 21]) ∧ Grows w w' := by
  have ho17 := h.ob j hj (by omega)
  have hg : Grows w (w.alloc (Obj.cells #[.int .i64 o] 3)) := (Grows.refl _).alloc _
  have hr : Row (w.alloc (Obj.cells #[.int .i64 o] 3)) w.heap.size #[.int .i64 o] 3 := Row.new w _ _
  have ho := wrong_gen (h.grows hg) j o _ (by omega) (by omega) (owned_1 (h.grows hg) o (hr.cell 0)) (hr.cell 0) hr.lt
  rw [wrE_ok hj hT hO (by omega)] at ho
  have HH := Lib.hid h
  clear h hr
  go_enter Tryd.func42, Tryd.ntmps42
  go_wp2_with fail
  refine ho.mono ?_
  rintro _ w2 ⟨rfl, hg2⟩
  have H2 := Lib.hid (HH.out.grows (hg.trans hg2))
  obtain ⟨c0, c1, c2, c3, c4⟩ := H2.out.row.cells
  have HG := Lib.hid (hg.trans hg2)
  clear ho hg hg2
  go_wp2_with fail
  go_ret2
  exact ⟨rfl, HG.out⟩
theorem Free_more {w : World} {p bt bw n first low j o : Nat} {T O : Nat → Nat} {quo : Nat → Int} (h : FrAt w p bt bw n first T O quo low) (hj : j < n) (hT : 1 < T j) (hO : O j = o) (hf : first ≤ j) :
    Calls Tryd.prog 42 #[.pointer (some ⟨p, 0, none⟩), .int .i64 j, .int .i64 o] w fun r w' => r = .returned (.tuple #[.bool false, .int .i64 0]) ∧ FrAt w' p bt bw n first (upF T j (T j - 1)) O quo low ∧ Chg [p, bt, bw] w w' := by
  have ho17 := h.ob j hj (by omega)
  have hg : Grows w (w.alloc (Obj.cells #[.int .i64 o] 3)) := (Grows.refl _).alloc _
  have hr : Row (w.alloc (Obj.cells #[.int .i64 o] 3)) w.heap.size #[.int .i64 o] 3 := Row.new w _ _
  have ho := wrong_gen (h.grows hg) j o _ (by omega) (by omega) (owned_1 (h.grows hg) o (hr.cell 0)) (hr.cell 0) hr.lt
  rw [wrE_ok hj (by omega) hO (by omega)] at ho
  have HH := Lib.hid h
  have hn2 := h.n2
  have htb := h.tb j hj
  have dF : decide ((j : Int) < (first : Int)) = false := decide_eq_false (by omega)
  clear h hr
  go_enter Tryd.func42, Tryd.ntmps42
  go_wp2_with fail
  refine ho.mono ?_
  rintro _ w2 ⟨rfl, hg2⟩
  have H2 := Lib.hid (HH.out.grows (hg.trans hg2))
  have HG := Lib.hid (hg.trans hg2)
  obtain ⟨c0, c1, c2, c3, c4⟩ := H2.out.row.cells
  have l1 := H2.out.row.lt
  have ht := H2.out.look_tj hj
  obtain ⟨w3, hrun, hI, hgr⟩ := H2.out.tm.update Tryd.underlying3 Tryd.underlying3 Tryd.underlying29 (by have : heldC n T ≤ n := cn_le; unfold maxLen; omega) (K := (j : Int)) (V := ((T j - 1 : Nat) : Int)) (wf_of (by omega) (by omega)) (wf_of (by omega) (by omega))
  have e1 : ((T j - 1 : Nat) : Int) = (T j : Int) - 1 := by omega
  have hne := H2.out.ne
  have hc := Chg.of_grown hgr
  rw [tmF_at hj, if_pos (show 0 < T j by omega)] at hI
  have h2 : IMap Tryd.prog 3 3 w3 bt (heldC n (upF T j (T j - 1))) (tmF n (upF T j (T j - 1))) := by
    rw [heldC_same (by omega) (by omega), tmF_put hj (by omega)]; exact hI
  have H3 : Hid (FrAt w3 p bt bw n first (upF T j (T j - 1)) O quo low) := by
    refine ⟨by rw [ownC_same (by omega) (by omega)]; exact H2.out.row.chg hc (by simp; omega), h2, ?_, H2.out.n1, H2.out.n2, H2.out.fl, H2.out.lo, fun i hi => ?_, fun i hi ht => ?_, fun i hi => ?_, hne⟩
    · obtain ⟨s, g, _, g2, _⟩ := H2.out.wh
      refine FrAt.wh_chg hc (by simp; omega) g2.lt (heldC_same (by omega) (by omega)) (fun i hi => ?_) H2.out.wh
      by_cases e : i = j
      · rw [e, upF_same]; omega
      · rw [upF_ne _ _ e]
    · by_cases e : i = j
      · rw [e, upF_same]; omega
      · rw [upF_ne _ _ e]; exact H2.out.below i hi
    · by_cases e : i = j
      · rw [e]; exact H2.out.ob j hj (by omega)
      · rw [upF_ne _ _ e] at ht; exact H2.out.ob i hi ht
    · by_cases e : i = j
      · rw [e, upF_same]; have := H2.out.tb j hj; omega
      · rw [upF_ne _ _ e]; exact H2.out.tb i hi
  have HC := Lib.hid hc
  obtain ⟨d0, d1, d2, d3, d4⟩ := H3.out.row.cells
  have hl3 := H3.out.look_tj hj
  rw [upF_same, e1] at hl3
  rw [e1] at hrun
  have dT : decide ((0 : Int) < (T j : Int) - 1) = true := decide_eq_true (by omega)
  have dw : IntKind.i64.wrap ((T j : Int) - 1) = (T j : Int) - 1 := by rw [IntKind.wrap_i64]; omega
  obtain ⟨tj, htj⟩ : ∃ tj, tj = T j := ⟨_, rfl⟩
  rw [← htj] at ht hl3 hrun hT dw
  clear ho hg hg2 hI hgr e1 h2 hc hne htj htb dT
  go_wp2_with fail
  go_ret2
  exact ⟨rfl, H3.out, (Chg.of_grows HG.out).trans (HC.out.weaken (by simp))⟩
theorem free_chg {w w5 Z : World} {p bt bw a b : Nat} {u v : Value} (hc : Chg [p, bt, bw] w w5) (hz : Grows w5 Z) : Chg [p, bt, bw] w ((Z.setCell ⟨p, a, none⟩ u).setCell ⟨p, b, none⟩ v) :=
  ((hc.grows hz).setCell (Or.inl (by simp)) _ _).setCell (Or.inl (by simp)) _ _
theorem free_end {w2 w5 Z : World} {p bt bw n first low j a b low' : Nat} {T O own' : Nat → Nat} {quo : Nat → Int} {u v : Value} (h : FrAt w2 p bt bw n first T O quo low) (hown : ownC n (upF T j 0) O = own')
    (h5 : IMap Tryd.prog 3 3 w5 bt (heldC n (upF T j 0)) (tmF n (upF T j 0)))
    (hw : ∃ s g, s ≤ heldC n (upF T j 0) ∧ IMap Tryd.prog 3 3 w5 bw s g ∧ (∀ i, i < n → 0 < upF T j 0 i → (g i).getD 0 = O i) ∧ (∀ i : Nat, first ≤ i → i < n → 0 < upF T j 0 i → (g i).isSome) ∧ (∀ x : Int, ¬ (0 ≤ x ∧ x < n ∧ 0 < upF T j 0 x.toNat) → g x = none))
    (hz : Grows w5 Z) (hr : FrRow ((Z.setCell ⟨p, a, none⟩ u).setCell ⟨p, b, none⟩ v) p bt bw n first own' quo low') (hl : low' ≤ low) (hf : first ≤ j) (hfl : first ≤ low') (hlj : low' ≤ j) (hj : j < n) (hne : p ≠ bt ∧ p ≠ bw ∧ bt ≠ bw) :
    FrAt ((Z.setCell ⟨p, a, none⟩ u).setCell ⟨p, b, none⟩ v) p bt bw n first (upF T j 0) O quo low' := by
  have hc : Chg [p] w5 ((Z.setCell ⟨p, a, none⟩ u).setCell ⟨p, b, none⟩ v) := ((Chg.of_grows hz).setCell (Or.inl (by simp)) _ _).setCell (Or.inl (by simp)) _ _
  obtain ⟨s, g, g0, g1, g2⟩ := hw
  have hlo := h.lo
  refine ⟨by rw [hown]; exact hr, IMap.chg' h5 hc (by simp; omega), ⟨s, g, g0, IMap.chg' g1 hc (by simp; omega), g2⟩, h.n1, h.n2, hfl, by omega, fun i hi => ?_, fun i hi ht => ?_, fun i hi => ?_, hne⟩
  · rw [upF_ne _ _ (by omega)]; exact h.below i (by omega)
  · by_cases e : i = j
    · rw [e, upF_same] at ht; omega
    · rw [upF_ne _ _ e] at ht; exact h.ob i hi ht
  · by_cases e : i = j
    · rw [e, upF_same]; omega
    · rw [upF_ne _ _ e]; exact h.tb i hi
set_option maxRecDepth 100000 in
theorem Free_last {w : World} {p bt bw n first low j o : Nat} {T O : Nat → Nat} {quo : Nat → Int} (h : FrAt w p bt bw n first T O quo low) (hj : j < n) (hT : T j = 1) (hO : O j = o) (hf : first ≤ j) :
    Calls Tryd.prog 42 #[.pointer (some ⟨p, 0, none⟩), .int .i64 j, .int .i64 o] w fun r w' => r = .returned (.tuple #[.bool true, .int .i64 0]) ∧ FrAt w' p bt bw n first (upF T j 0) O quo (min low j) ∧ Chg [p, bt, bw] w w' := by
  have ho17 := h.ob j hj (by omega)
  rw [hO] at ho17
  have hg : Grows w (w.alloc (Obj.cells #[.int .i64 o] 3)) := (Grows.refl _).alloc _
  have hr : Row (w.alloc (Obj.cells #[.int .i64 o] 3)) w.heap.size #[.int .i64 o] 3 := Row.new w _ _
  have ho := wrong_gen (h.grows hg) j o _ (by omega) (by omega) (owned_1 (h.grows hg) o (hr.cell 0)) (hr.cell 0) hr.lt
  rw [wrE_ok hj (by omega) hO (by omega)] at ho
  have HH := Lib.hid h
  have hn2 := h.n2
  have dF : decide ((j : Int) < (first : Int)) = false := decide_eq_false (by omega)
  clear h hr
  go_enter Tryd.func42, Tryd.ntmps42
  go_wp2_with fail
  refine ho.mono ?_
  rintro _ w2 ⟨rfl, hg2⟩
  have H2 := Lib.hid (HH.out.grows (hg.trans hg2))
  have HG := Lib.hid (hg.trans hg2)
  obtain ⟨c0, c1, c2, c3, c4⟩ := H2.out.row.cells
  have l1 := H2.out.row.lt
  have ht := H2.out.look_tj hj
  rw [hT] at ht
  have wj : wf64 (j : Int) := wf_of (by omega) (by omega)
  obtain ⟨w3, hrun, hI, hgr⟩ := H2.out.tm.update Tryd.underlying3 Tryd.underlying3 Tryd.underlying29 (by have : heldC n T ≤ n := cn_le; unfold maxLen; omega) (K := (j : Int)) (V := 0) wj (wf_of (by omega) (by omega))
  have hne := H2.out.ne
  have hc3 := Chg.of_grown hgr
  rw [tmF_at hj, if_pos (show 0 < T j by omega)] at hI
  obtain ⟨hl3, _⟩ := hI.look Tryd.underlying3 Tryd.underlying3 Tryd.underlying29 (zero_int w3) wj
  rw [show (imUpd (tmF n T) (j : Int) 0 (j : Int)).getD 0 = 0 by unfold imUpd; rw [if_pos rfl]; rfl] at hl3
  obtain ⟨w4, hdel, hI4, hgr4⟩ := hI.del Tryd.underlying3 Tryd.underlying29 wj 0
  have hc4 := Chg.of_grown hgr4
  obtain ⟨s, g, gs, gI, g1, g2, g3⟩ := H2.out.wh
  have gI4 := IMap.chg' (IMap.chg' gI hc3 (by simp; omega)) hc4 (by simp; omega)
  obtain ⟨w5, hdel5, hI5, hgr5⟩ := gI4.del Tryd.underlying3 Tryd.underlying29 wj 0
  have hc5 := Chg.of_grown hgr5
  have r3 := H2.out.row.chg hc3 (by simp; omega)
  have r4 := r3.chg hc4 (by simp; omega)
  have r5 := r4.chg hc5 (by simp; omega)
  have d2 := r3.cells.2.2.1
  have f3 := r4.cells.2.2.2.1
  have l5 := r5.lt
  have H5 : Hid (IMap Tryd.prog 3 3 w5 bt (heldC n (upF T j 0)) (tmF n (upF T j 0))) := by
    have h5 := IMap.chg' hI4 hc5 (by simp; omega)
    have e1 : (tmF n T (j : Int)).isSome = true := by rw [tmF_at hj, if_pos (show 0 < T j by omega)]; rfl
    have e2 : (imUpd (tmF n T) (j : Int) 0 (j : Int)).isSome = true := by unfold imUpd; rw [if_pos rfl]; rfl
    rw [if_pos e2] at h5
    have e3 : imDel (imUpd (tmF n T) (j : Int) 0) (j : Int) = tmF n (upF T j 0) := by
      rw [tmF_del hj]
      funext x; unfold imDel imUpd
      by_cases hx : x = (j : Int)
      · rw [if_pos hx, if_pos hx]
      · rw [if_neg hx, if_neg hx, if_neg hx]
    rw [e3] at h5
    have e4 := heldC_del hj (show 0 < T j by omega)
    simp only [Option.isSome_some, if_true] at h5
    rw [e4, Nat.add_sub_cancel] at h5
    exact h5
  have HW5 : Hid (∃ s g, s ≤ heldC n (upF T j 0) ∧ IMap Tryd.prog 3 3 w5 bw s g ∧ (∀ i, i < n → 0 < upF T j 0 i → (g i).getD 0 = O i) ∧ (∀ i : Nat, first ≤ i → i < n → 0 < upF T j 0 i → (g i).isSome) ∧ (∀ x : Int, ¬ (0 ≤ x ∧ x < n ∧ 0 < upF T j 0 x.toNat) → g x = none)) := by
    have e4 := heldC_del hj (show 0 < T j by omega)
    refine ⟨_, imDel g (j : Int), ?_, hI5, fun i hi ht => ?_, fun i hfi hi ht => ?_, fun x hx => ?_⟩
    · rw [if_pos (g2 j hf hj (by omega))]; omega
    · have e : i ≠ j := fun e => by rw [e, upF_same] at ht; omega
      rw [upF_ne _ _ e] at ht
      unfold imDel
      rw [if_neg (by omega)]
      exact g1 i hi ht
    · have e : i ≠ j := fun e => by rw [e, upF_same] at ht; omega
      rw [upF_ne _ _ e] at ht
      unfold imDel
      rw [if_neg (by omega)]
      exact g2 i hfi hi ht
    · unfold imDel
      by_cases e : x = (j : Int)
      · rw [if_pos e]
      · rw [if_neg e]
        refine g3 x (fun hh => hx ⟨hh.1, hh.2.1, ?_⟩)
        rw [upF_ne _ _ (by omega)]
        exact hh.2.2
  have HC5 : Hid (Chg [p, bt, bw] w w5) := Lib.hid ((((Chg.of_grows HG.out).trans (hc3.weaken (by simp))).trans (hc4.weaken (by simp))).trans (hc5.weaken (by simp)))
  have R5 := Lib.hid r5
  have hown1 := ownC_del1 (o := o) hj (show 0 < T j by omega) hO
  have hownle : ownC n T O o ≤ n := ownC_le
  have hfl2 := H2.out.fl
  have HOWN := Lib.hid (ownC_del (o := o) hj (show 0 < T j by omega) hO)
  clear ho hg hg2 hI hgr hI4 hgr4 gI gI4 hI5 hgr5 g1 g2 g3 gs r3 r4 r5 hc3 hc4 hc5
  go_wp2_with fail
  obtain ⟨Z, hV⟩ : ∃ V, V = World.drew w5 := ⟨_, rfl⟩
  have hZ : Grows w5 Z := by rw [hV]; exact (Grows.refl _).drew
  refine wp_region_still_tail 10 (by kernel_rfl) (by kernel_rfl) ?_
  simp only [List.take_succ_cons, List.take_zero, List.drop_succ_cons, List.drop_zero]
  change wpStill _ _ (World.drew w5) _ _ _
  rw [← hV]
  have HZ := Lib.hid hV
  clear hV
  have RZ := Lib.hid (FrRow.chg (S := []) R5.out (Chg.of_grows hZ) (by simp))
  have co := RZ.out.own ho17
  have fo := RZ.out.frozen (4 + o)
  have lz := RZ.out.lt
  have dw : IntKind.i64.wrap ((ownC n T O o : Int) - 1) = ((ownC n T O o - 1 : Nat) : Int) := by rw [IntKind.wrap_i64]; omega
  have R6 := Lib.hid (RZ.out.setOwn ho17 (ownC n T O o - 1))
  have GZ := Lib.hid hZ
  have i1 : (o : Int) < 17 := by omega
  have i2 : (0 : Int) ≤ (o : Int) := by omega
  have cl := R6.out.cells.2.2.2.2
  have fl := R6.out.frozen 38
  generalize ownC n T O o - 1 = ov' at *
  generalize ownC n T O o = ov at *
  clear hZ hT d2 f3 hdel hdel5 hrun hl3 ht
  repeat still_step
  refine wpStill_nil ?_
  change wpList _ _ _ _ _ (World.drew w5)
  rw [← (HZ).out]
  go_wp2_with fail
  all_goals
    go_ret2
    first
    | (have hv : min low j = low := by omega
       rw [hv]
       exact ⟨rfl, free_end H2.out HOWN.out H5.out HW5.out GZ.out (R6.out.setLow low) (by omega) hf (by omega) (by omega) (by omega) hne, free_chg HC5.out GZ.out⟩)
    | (have hv : min low j = j := by omega
       rw [hv]
       exact ⟨rfl, free_end H2.out HOWN.out H5.out HW5.out GZ.out (R6.out.setLow j) (by omega) hf (by omega) (by omega) (by omega) hne, free_chg HC5.out GZ.out⟩)
end Go.Proofs.YtlchlklbjocliaaDoor
