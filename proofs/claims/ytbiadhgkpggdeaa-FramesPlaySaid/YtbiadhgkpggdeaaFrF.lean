/- frames: Move. -/
import Derived.Test.YtbiadhgkpggdeaaFrE
namespace Go.Proofs.Ytbiadhgkpggdeaa
open Go Go.RowKit
set_option linter.unusedSimpArgs false
set_option linter.unusedVariables false
theorem wrE_ok2 {n j o a : Nat} {T O : Nat → Nat} (hj : j < n) (hT : 0 < T j) (hO : O j = o) (ho : o < 17) (ha : a < 17) : wrE n T O j o (if isOwn (o : Int) ∧ isOwn (a : Int) then 0 else 2) = 0 := by
  rw [if_pos (show isOwn (o : Int) ∧ isOwn (a : Int) from ⟨⟨by omega, by omega⟩, ⟨by omega, by omega⟩⟩)]
  unfold wrE; rw [if_neg (by simp), if_neg (by omega), Int.toNat_natCast, if_neg (by omega)]
theorem Move_bad {w : World} {p bt bw n first low : Nat} {T O : Nat → Nat} {quo : Nat → Int} (h : FrAt w p bt bw n first T O quo low) (x a b : Int) (he : wrE n T O x a (if isOwn a ∧ isOwn b then 0 else 2) ≠ 0) :
    Calls Try.prog 12 #[.pointer (some ⟨p, 0, none⟩), .int .i64 x, .int .i64 a, .int .i64 b] w fun r w' => r = .returned (.int .i64 (wrE n T O x a (if isOwn a ∧ isOwn b then 0 else 2))) ∧ Grows w w' := by
  have hg : Grows w (w.alloc (Obj.cells #[.int .i64 a, .int .i64 b] 3)) := (Grows.refl _).alloc _
  have hr : Row (w.alloc (Obj.cells #[.int .i64 a, .int .i64 b] 3)) w.heap.size #[.int .i64 a, .int .i64 b] 3 := Row.new w _ _
  have ho := wrong_gen (h.grows hg) x a _ (by omega) (by omega) (owned_2 (h.grows hg) a b (hr.cell 0) (hr.cell 1)) (hr.cell 0) hr.lt
  generalize wrE n T O x a (if isOwn a ∧ isOwn b then 0 else 2) = e at *
  have hb : (e != 0) = true := by simp; exact he
  clear h he hr
  go_enter Try.func12, Try.ntmps12
  go_wp2_with fail
  refine ho.mono ?_
  rintro _ w2 ⟨rfl, hg2⟩
  go_wp2_with fail
  go_ret
  exact ⟨rfl, hg.trans hg2⟩
theorem Move_state {w : World} {p bt bw n first low j a b : Nat} {T O : Nat → Nat} {quo : Nat → Int} (h : FrAt w p bt bw n first T O quo low) (hj : j < n) (hT : 0 < T j) (hO : O j = a) (hb17 : b < 17) (hs : j < first ∨ 1 < T j) :
    Calls Try.prog 12 #[.pointer (some ⟨p, 0, none⟩), .int .i64 j, .int .i64 a, .int .i64 b] w fun r w' => r = .returned (.int .i64 21) ∧ Grows w w' := by
  by_cases hf : j < first
  · clear hs
    have ho17 := h.ob j hj (by omega)
    rw [hO] at ho17
    have hg : Grows w (w.alloc (Obj.cells #[.int .i64 a, .int .i64 b] 3)) := (Grows.refl _).alloc _
    have hr : Row (w.alloc (Obj.cells #[.int .i64 a, .int .i64 b] 3)) w.heap.size #[.int .i64 a, .int .i64 b] 3 := Row.new w _ _
    have ho := wrong_gen (h.grows hg) j a _ (by omega) (by omega) (owned_2 (h.grows hg) a b (hr.cell 0) (hr.cell 1)) (hr.cell 0) hr.lt
    rw [wrE_ok2 hj (by omega) hO (by omega) hb17] at ho
    have HH := Lib.hid h
    have hn2 := h.n2
    clear h hr
    go_enter Try.func12, Try.ntmps12
    go_wp2_with fail
    refine ho.mono ?_
    rintro _ w2 ⟨rfl, hg2⟩
    have H2 := Lib.hid (HH.out.grows (hg.trans hg2))
    obtain ⟨c0, c1, c2, c3, c4⟩ := H2.out.row.cells
    have l1 := H2.out.row.lt
    have ht := H2.out.look_tj hj
    have HG := Lib.hid (hg.trans hg2)
    clear ho hg hg2
    go_wp2_with fail
    go_ret
    exact ⟨rfl, HG.out⟩
  · have hT1 : 1 < T j := by omega
    have dF : decide ((j : Int) < (first : Int)) = false := decide_eq_false (by omega)
    clear hs
    have ho17 := h.ob j hj (by omega)
    rw [hO] at ho17
    have hg : Grows w (w.alloc (Obj.cells #[.int .i64 a, .int .i64 b] 3)) := (Grows.refl _).alloc _
    have hr : Row (w.alloc (Obj.cells #[.int .i64 a, .int .i64 b] 3)) w.heap.size #[.int .i64 a, .int .i64 b] 3 := Row.new w _ _
    have ho := wrong_gen (h.grows hg) j a _ (by omega) (by omega) (owned_2 (h.grows hg) a b (hr.cell 0) (hr.cell 1)) (hr.cell 0) hr.lt
    rw [wrE_ok2 hj (by omega) hO (by omega) hb17] at ho
    have HH := Lib.hid h
    have hn2 := h.n2
    clear h hr
    go_enter Try.func12, Try.ntmps12
    go_wp2_with fail
    refine ho.mono ?_
    rintro _ w2 ⟨rfl, hg2⟩
    have H2 := Lib.hid (HH.out.grows (hg.trans hg2))
    obtain ⟨c0, c1, c2, c3, c4⟩ := H2.out.row.cells
    have l1 := H2.out.row.lt
    have ht := H2.out.look_tj hj
    have HG := Lib.hid (hg.trans hg2)
    clear ho hg hg2
    obtain ⟨tj, htj⟩ : ∃ tj, tj = T j := ⟨_, rfl⟩
    rw [← htj] at ht hT1
    clear htj
    go_wp2_with fail
    go_ret
    exact ⟨rfl, HG.out⟩
theorem Move_quota {w : World} {p bt bw n first low j a b : Nat} {T O : Nat → Nat} {quo : Nat → Int} (h : FrAt w p bt bw n first T O quo low) (hj : j < n) (hT : T j = 1) (hO : O j = a) (hb17 : b < 17) (hf : first ≤ j) (hab : a ≠ b) (hq : quo b ≤ ownC n T O b) :
    Calls Try.prog 12 #[.pointer (some ⟨p, 0, none⟩), .int .i64 j, .int .i64 a, .int .i64 b] w fun r w' => r = .returned (.int .i64 19) ∧ Grows w w' := by
  have dF : decide ((j : Int) < (first : Int)) = false := decide_eq_false (by omega)
  have dA : ((a : Int) != (b : Int)) = true := by simp; omega
  have ho17 := h.ob j hj (by omega)
  rw [hO] at ho17
  have hg : Grows w (w.alloc (Obj.cells #[.int .i64 a, .int .i64 b] 3)) := (Grows.refl _).alloc _
  have hr : Row (w.alloc (Obj.cells #[.int .i64 a, .int .i64 b] 3)) w.heap.size #[.int .i64 a, .int .i64 b] 3 := Row.new w _ _
  have ho := wrong_gen (h.grows hg) j a _ (by omega) (by omega) (owned_2 (h.grows hg) a b (hr.cell 0) (hr.cell 1)) (hr.cell 0) hr.lt
  rw [wrE_ok2 hj (by omega) hO (by omega) hb17] at ho
  have HH := Lib.hid h
  have hn2 := h.n2
  clear h hr
  go_enter Try.func12, Try.ntmps12
  go_wp2_with fail
  refine ho.mono ?_
  rintro _ w2 ⟨rfl, hg2⟩
  have H2 := Lib.hid (HH.out.grows (hg.trans hg2))
  obtain ⟨c0, c1, c2, c3, c4⟩ := H2.out.row.cells
  have l1 := H2.out.row.lt
  have ht := H2.out.look_tj hj
  have HG := Lib.hid (hg.trans hg2)
  clear ho hg hg2
  rw [hT] at ht
  have co := H2.out.row.own hb17
  have cq := H2.out.row.quo hb17
  have i1 : (b : Int) < 17 := by omega
  have dQ : decide (quo b ≤ (ownC n T O b : Int)) = true := decide_eq_true hq
  generalize ownC n T O b = ov at *
  generalize quo b = qv at *
  clear hT
  go_wp2_with fail
  refine wp_region_grow (by kernel_rfl) (by kernel_rfl) ?_
  repeat (go_big_quiet_step ((fail)))
  refine wpQuiet_nil ?_
  intro _ hw'
  obtain ⟨gg, rfl⟩ := hw'
  go_wp2_with fail
  go_ret
  exact ⟨rfl, HG.out.trans (Grows.of w2 gg)⟩
theorem move_end {w5 Z : World} {p bt bw n first low j b s : Nat} {T O own' : Nat → Nat} {g : Int → Option Int} {quo : Nat → Int} (h : FrAt w5 p bt bw n first T O quo low) (hown : ownC n T (upF O j b) = own')
    (hb17 : b < 17) (hs : s ≤ heldC n T) (hI : IMap Try.prog 3 3 Z bw s (imUpd g (j : Int) (b : Int))) (hr : FrRow Z p bt bw n first own' quo low) (hc : Chg [p, bw] w5 Z) (hj : j < n) (hT : 0 < T j)
    (g1 : ∀ i, i < n → 0 < T i → (g i).getD 0 = O i) (g2 : ∀ i : Nat, first ≤ i → i < n → 0 < T i → (g i).isSome) (g3 : ∀ x : Int, ¬ (0 ≤ x ∧ x < n ∧ 0 < T x.toNat) → g x = none) :
    FrAt Z p bt bw n first T (upF O j b) quo low := by
  have hne := h.ne
  refine ⟨by rw [hown]; exact hr, IMap.chg' h.tm hc (by simp; omega), ⟨s, _, hs, hI, fun i hi ht => ?_, fun i hf hi ht => ?_, fun x hx => ?_⟩, h.n1, h.n2, h.fl, h.lo, h.below, fun i hi ht => ?_, h.tb, hne⟩
  · unfold imUpd
    by_cases e : i = j
    · rw [if_pos (by omega), e, upF_same]; rfl
    · rw [if_neg (by omega), upF_ne _ _ e]; exact g1 i hi ht
  · unfold imUpd
    by_cases e : i = j
    · rw [if_pos (by omega)]; rfl
    · rw [if_neg (by omega)]; exact g2 i hf hi ht
  · unfold imUpd
    rw [if_neg (fun e => hx (by rw [e]; exact ⟨by omega, by omega, by rw [Int.toNat_natCast]; exact hT⟩))]
    exact g3 x hx
  · by_cases e : i = j
    · rw [e, upF_same]; exact hb17
    · rw [upF_ne _ _ e]; exact h.ob i hi ht
set_option maxRecDepth 100000 in
set_option maxHeartbeats 2000000 in
theorem Move_ok {w : World} {p bt bw n first low j a b : Nat} {T O : Nat → Nat} {quo : Nat → Int} (h : FrAt w p bt bw n first T O quo low) (hj : j < n) (hT : T j = 1) (hO : O j = a) (hb17 : b < 17) (hf : first ≤ j) (hq : a = b ∨ (ownC n T O b : Int) < quo b) :
    Calls Try.prog 12 #[.pointer (some ⟨p, 0, none⟩), .int .i64 j, .int .i64 a, .int .i64 b] w fun r w' => r = .returned (.int .i64 0) ∧ FrAt w' p bt bw n first T (upF O j b) quo low ∧ Chg [p, bt, bw] w w' := by
  have dF : decide ((j : Int) < (first : Int)) = false := decide_eq_false (by omega)
  have ho17 := h.ob j hj (by omega)
  rw [hO] at ho17
  have hg : Grows w (w.alloc (Obj.cells #[.int .i64 a, .int .i64 b] 3)) := (Grows.refl _).alloc _
  have hr : Row (w.alloc (Obj.cells #[.int .i64 a, .int .i64 b] 3)) w.heap.size #[.int .i64 a, .int .i64 b] 3 := Row.new w _ _
  have ho := wrong_gen (h.grows hg) j a _ (by omega) (by omega) (owned_2 (h.grows hg) a b (hr.cell 0) (hr.cell 1)) (hr.cell 0) hr.lt
  rw [wrE_ok2 hj (by omega) hO (by omega) hb17] at ho
  have HH := Lib.hid h
  have hn2 := h.n2
  clear h hr
  go_enter Try.func12, Try.ntmps12
  go_wp2_with fail
  refine ho.mono ?_
  rintro _ w2 ⟨rfl, hg2⟩
  have H2 := Lib.hid (HH.out.grows (hg.trans hg2))
  obtain ⟨c0, c1, c2, c3, c4⟩ := H2.out.row.cells
  have l1 := H2.out.row.lt
  have ht := H2.out.look_tj hj
  have HG := Lib.hid (hg.trans hg2)
  clear ho hg hg2
  rw [hT] at ht
  have co := H2.out.row.own hb17
  have cq := H2.out.row.quo hb17
  have i1 : (b : Int) < 17 := by omega
  by_cases hab : a = b
  · subst hab
    have dA : ((a : Int) != (a : Int)) = false := by simp
    clear hq co cq
    go_wp2_with fail
    refine wp_region_grow (by kernel_rfl) (by kernel_rfl) ?_
    repeat (go_big_quiet_step ((fail)))
    refine wpQuiet_nil ?_
    intro _ hw'
    obtain ⟨gg, rfl⟩ := hw'
    go_wp2_with fail
    obtain ⟨w3, hw3⟩ : ∃ w3, w3 = w2.grow gg := ⟨_, rfl⟩
    have HG3 : Hid (Grows w2 w3) := by show Grows _ _; rw [hw3]; exact Grows.of w2 gg
    rw [← hw3]
    clear hw3 c0 c1 c2 c3 c4 l1 ht
    have H3 := Lib.hid (H2.out.grows HG3.out)
    have hown1 := ownC_del1 (o := a) hj (show 0 < T j by omega) hO
    have hle : ownC n T O a ≤ n := ownC_le
    have hleb : ownC n T O a ≤ n := ownC_le
    have HOWN := Lib.hid (ownC_move (b := a) hj (show 0 < T j by omega) hO)
    have HT : Hid (0 < T j) := Lib.hid (by omega)
    obtain ⟨Z, hV⟩ : ∃ V, V = World.drew w3 := ⟨_, rfl⟩
    have hZ : Grows w3 Z := by rw [hV]; exact (Grows.refl _).drew
    refine wp_region_still_tail 10 (by kernel_rfl) (by kernel_rfl) ?_
    simp only [List.take_succ_cons, List.take_zero, List.drop_succ_cons, List.drop_zero]
    change wpStill _ _ (World.drew w3) _ _ _
    rw [← hV]
    have HZ := Lib.hid hV
    clear hV
    have RZ := Lib.hid (FrRow.chg (S := []) H3.out.row (Chg.of_grows hZ) (by simp))
    have co := RZ.out.own ho17
    have fo := RZ.out.frozen (4 + a)
    have lz := RZ.out.lt
    have ia : (a : Int) < 17 := by omega
    have ia2 : (0 : Int) ≤ (a : Int) := by omega
    have dw : IntKind.i64.wrap ((ownC n T O a : Int) - 1) = ((ownC n T O a - 1 : Nat) : Int) := by rw [IntKind.wrap_i64]; omega
    have R4 := Lib.hid (RZ.out.setOwn ho17 (ownC n T O a - 1))
    have GZ := Lib.hid hZ
    have hvb : upF (ownC n T O) a (ownC n T O a - 1) a ≤ n := by unfold upF; split <;> omega
    generalize ownC n T O a - 1 = ov' at *
    obtain ⟨ov, hov⟩ : ∃ ov, ov = ownC n T O a := ⟨_, rfl⟩
    rw [← hov] at co dw
    clear hov hZ hT hle hown1
    repeat still_step
    refine wpStill_nil ?_
    change wpList _ _ _ _ _ (World.drew w3)
    rw [← (HZ).out]
    go_wp2_with fail
    obtain ⟨w4, hw4⟩ : ∃ w4, w4 = Z.setCell ⟨p, 4 + a, none⟩ (.int .i64 (ov' : Nat)) := ⟨_, rfl⟩
    have HC4 : Hid (Chg [p] w3 w4) := by show Chg _ _ _; rw [hw4]; exact (Chg.of_grows GZ.out).setCell (Or.inl (by simp)) _ _
    rw [← hw4] at R4
    rw [← hw4]
    clear hw4 co fo lz dw ia ia2 RZ GZ
    obtain ⟨Y, hV⟩ : ∃ V, V = World.drew w4 := ⟨_, rfl⟩
    have hY : Grows w4 Y := by rw [hV]; exact (Grows.refl _).drew
    refine wp_region_still_tail 10 (by kernel_rfl) (by kernel_rfl) ?_
    simp only [List.take_succ_cons, List.take_zero, List.drop_succ_cons, List.drop_zero]
    change wpStill _ _ (World.drew w4) _ _ _
    rw [← hV]
    have HY := Lib.hid hV
    clear hV
    have RY := Lib.hid (FrRow.chg (S := []) R4.out (Chg.of_grows hY) (by simp))
    have co := RY.out.own hb17
    have fo := RY.out.frozen (4 + a)
    have lz := RY.out.lt
    have ia : (a : Int) < 17 := by omega
    have ia2 : (0 : Int) ≤ (a : Int) := by omega
    have R5 := Lib.hid (RY.out.setOwn hb17 (upF (ownC n T O) a ov' a + 1))
    have GY := Lib.hid hY
    have HVB := Lib.hid hvb
    have dw : IntKind.i64.wrap ((upF (ownC n T O) a ov' a : Int) + 1) = ((upF (ownC n T O) a ov' a + 1 : Nat) : Int) := by rw [IntKind.wrap_i64]; omega
    obtain ⟨vc, hvc⟩ : ∃ vc, vc = upF (ownC n T O) a ov' a + 1 := ⟨_, rfl⟩
    rw [← hvc] at dw R5 HOWN
    obtain ⟨vb, hvb2⟩ : ∃ vb, vb = upF (ownC n T O) a ov' a := ⟨_, rfl⟩
    rw [← hvb2] at co dw
    clear hvc hvb2 hY hvb hleb
    obtain ⟨w5, hw5⟩ : ∃ w5, w5 = Y.setCell ⟨p, 4 + a, none⟩ (.int .i64 (vc : Nat)) := ⟨_, rfl⟩
    have HC5 : Hid (Chg [p] w3 w5) := by show Chg _ _ _; rw [hw5]; exact ((HC4.out).trans (Chg.of_grows GY.out)).setCell (Or.inl (by simp)) _ _
    rw [← hw5] at R5
    have c3Y := RY.out.cells.2.2.2.1
    obtain ⟨s, g, gs, gI, g1, g2, g3⟩ := H3.out.wh
    have hne := H3.out.ne
    have gI5 := IMap.chg' gI HC5.out (by simp; omega)
    have hsl : s < maxLen := by have : heldC n T ≤ n := cn_le; unfold maxLen; omega
    obtain ⟨w6, hrun, hI6, hgr6⟩ := gI5.update Try.underlying3 Try.underlying3 Try.underlying38 hsl (K := (j : Int)) (V := (a : Int)) (wf_of (by omega) (by omega)) (wf_of (by omega) (by omega))
    rw [if_pos (g2 j hf hj HT.out)] at hI6
    have hc6 := Chg.of_grown hgr6
    have R6 := Lib.hid (R5.out.chg hc6 (by simp; omega))
    have HI6 := Lib.hid hI6
    have HC6 : Hid (Chg [p, bw] w3 w6) := Lib.hid ((HC5.out.weaken (by simp)).trans (hc6.weaken (by simp)))
    rw [hw5] at hrun
    clear hw5
    have HE := Lib.hid (move_end H3.out HOWN.out hb17 gs HI6.out R6.out HC6.out hj HT.out g1 g2 g3)
    clear gI gI5 hsl hI6 hgr6 hc6 g1 g2 g3 gs RY GY R4 R5 HC5 HC4 HOWN hne
    repeat still_step
    refine wpStill_nil ?_
    change wpList _ _ _ _ _ (World.drew w4)
    rw [← (HY).out]
    go_wp2_with fail
    go_ret
    exact ⟨rfl, HE.out, ((Chg.of_grows (HG.out.trans HG3.out)).trans (HC6.out.weaken (by simp)))⟩
  · have dA : ((a : Int) != (b : Int)) = true := by simp; omega
    have dQ : decide (quo b ≤ (ownC n T O b : Int)) = false := decide_eq_false (by omega)
    have HAB := Lib.hid hab
    have HQ := Lib.hid hq
    clear hab hq
    obtain ⟨ob, hob⟩ : ∃ ob, ob = ownC n T O b := ⟨_, rfl⟩
    obtain ⟨qb, hqb⟩ : ∃ qb, qb = quo b := ⟨_, rfl⟩
    rw [← hob] at co dQ
    rw [← hqb] at cq dQ
    clear hob hqb
    go_wp2_with fail
    refine wp_region_grow (by kernel_rfl) (by kernel_rfl) ?_
    repeat (go_big_quiet_step ((fail)))
    refine wpQuiet_nil ?_
    intro _ hw'
    obtain ⟨gg, rfl⟩ := hw'
    go_wp2_with fail
    clear co cq dQ
    obtain ⟨w3, hw3⟩ : ∃ w3, w3 = w2.grow gg := ⟨_, rfl⟩
    have HG3 : Hid (Grows w2 w3) := by show Grows _ _; rw [hw3]; exact Grows.of w2 gg
    rw [← hw3]
    clear hw3 c0 c1 c2 c3 c4 l1 ht
    have H3 := Lib.hid (H2.out.grows HG3.out)
    have hown1 := ownC_del1 (o := a) hj (show 0 < T j by omega) hO
    have hle : ownC n T O a ≤ n := ownC_le
    have hleb : ownC n T O b ≤ n := ownC_le
    have HOWN := Lib.hid (ownC_move (b := b) hj (show 0 < T j by omega) hO)
    have HT : Hid (0 < T j) := Lib.hid (by omega)
    obtain ⟨Z, hV⟩ : ∃ V, V = World.drew w3 := ⟨_, rfl⟩
    have hZ : Grows w3 Z := by rw [hV]; exact (Grows.refl _).drew
    refine wp_region_still_tail 10 (by kernel_rfl) (by kernel_rfl) ?_
    simp only [List.take_succ_cons, List.take_zero, List.drop_succ_cons, List.drop_zero]
    change wpStill _ _ (World.drew w3) _ _ _
    rw [← hV]
    have HZ := Lib.hid hV
    clear hV
    have RZ := Lib.hid (FrRow.chg (S := []) H3.out.row (Chg.of_grows hZ) (by simp))
    have co := RZ.out.own ho17
    have fo := RZ.out.frozen (4 + a)
    have lz := RZ.out.lt
    have ia : (a : Int) < 17 := by omega
    have ia2 : (0 : Int) ≤ (a : Int) := by omega
    have dw : IntKind.i64.wrap ((ownC n T O a : Int) - 1) = ((ownC n T O a - 1 : Nat) : Int) := by rw [IntKind.wrap_i64]; omega
    have R4 := Lib.hid (RZ.out.setOwn ho17 (ownC n T O a - 1))
    have GZ := Lib.hid hZ
    have hvb : upF (ownC n T O) a (ownC n T O a - 1) b ≤ n := by unfold upF; split <;> omega
    generalize ownC n T O a - 1 = ov' at *
    obtain ⟨ov, hov⟩ : ∃ ov, ov = ownC n T O a := ⟨_, rfl⟩
    rw [← hov] at co dw
    clear hov hZ hT hle hown1
    repeat still_step
    refine wpStill_nil ?_
    change wpList _ _ _ _ _ (World.drew w3)
    rw [← (HZ).out]
    go_wp2_with fail
    obtain ⟨w4, hw4⟩ : ∃ w4, w4 = Z.setCell ⟨p, 4 + a, none⟩ (.int .i64 (ov' : Nat)) := ⟨_, rfl⟩
    have HC4 : Hid (Chg [p] w3 w4) := by show Chg _ _ _; rw [hw4]; exact (Chg.of_grows GZ.out).setCell (Or.inl (by simp)) _ _
    rw [← hw4] at R4
    rw [← hw4]
    clear hw4 co fo lz dw ia ia2 RZ GZ
    obtain ⟨Y, hV⟩ : ∃ V, V = World.drew w4 := ⟨_, rfl⟩
    have hY : Grows w4 Y := by rw [hV]; exact (Grows.refl _).drew
    refine wp_region_still_tail 10 (by kernel_rfl) (by kernel_rfl) ?_
    simp only [List.take_succ_cons, List.take_zero, List.drop_succ_cons, List.drop_zero]
    change wpStill _ _ (World.drew w4) _ _ _
    rw [← hV]
    have HY := Lib.hid hV
    clear hV
    have RY := Lib.hid (FrRow.chg (S := []) R4.out (Chg.of_grows hY) (by simp))
    have co := RY.out.own hb17
    have fo := RY.out.frozen (4 + b)
    have lz := RY.out.lt
    have ia : (b : Int) < 17 := by omega
    have ia2 : (0 : Int) ≤ (b : Int) := by omega
    have R5 := Lib.hid (RY.out.setOwn hb17 (upF (ownC n T O) a ov' b + 1))
    have GY := Lib.hid hY
    have HVB := Lib.hid hvb
    have dw : IntKind.i64.wrap ((upF (ownC n T O) a ov' b : Int) + 1) = ((upF (ownC n T O) a ov' b + 1 : Nat) : Int) := by rw [IntKind.wrap_i64]; omega
    obtain ⟨vc, hvc⟩ : ∃ vc, vc = upF (ownC n T O) a ov' b + 1 := ⟨_, rfl⟩
    rw [← hvc] at dw R5 HOWN
    obtain ⟨vb, hvb2⟩ : ∃ vb, vb = upF (ownC n T O) a ov' b := ⟨_, rfl⟩
    rw [← hvb2] at co dw
    clear hvc hvb2 hY hvb hleb
    obtain ⟨w5, hw5⟩ : ∃ w5, w5 = Y.setCell ⟨p, 4 + b, none⟩ (.int .i64 (vc : Nat)) := ⟨_, rfl⟩
    have HC5 : Hid (Chg [p] w3 w5) := by show Chg _ _ _; rw [hw5]; exact ((HC4.out).trans (Chg.of_grows GY.out)).setCell (Or.inl (by simp)) _ _
    rw [← hw5] at R5
    have c3Y := RY.out.cells.2.2.2.1
    obtain ⟨s, g, gs, gI, g1, g2, g3⟩ := H3.out.wh
    have hne := H3.out.ne
    have gI5 := IMap.chg' gI HC5.out (by simp; omega)
    have hsl : s < maxLen := by have : heldC n T ≤ n := cn_le; unfold maxLen; omega
    obtain ⟨w6, hrun, hI6, hgr6⟩ := gI5.update Try.underlying3 Try.underlying3 Try.underlying38 hsl (K := (j : Int)) (V := (b : Int)) (wf_of (by omega) (by omega)) (wf_of (by omega) (by omega))
    rw [if_pos (g2 j hf hj HT.out)] at hI6
    have hc6 := Chg.of_grown hgr6
    have R6 := Lib.hid (R5.out.chg hc6 (by simp; omega))
    have HI6 := Lib.hid hI6
    have HC6 : Hid (Chg [p, bw] w3 w6) := Lib.hid ((HC5.out.weaken (by simp)).trans (hc6.weaken (by simp)))
    rw [hw5] at hrun
    clear hw5
    have HE := Lib.hid (move_end H3.out HOWN.out hb17 gs HI6.out R6.out HC6.out hj HT.out g1 g2 g3)
    clear gI gI5 hsl hI6 hgr6 hc6 g1 g2 g3 gs RY GY R4 R5 HC5 HC4 HOWN hne
    repeat still_step
    refine wpStill_nil ?_
    change wpList _ _ _ _ _ (World.drew w4)
    rw [← (HY).out]
    go_wp2_with fail
    go_ret
    exact ⟨rfl, HE.out, ((Chg.of_grows (HG.out.trans HG3.out)).trans (HC6.out.weaken (by simp)))⟩
end Go.Proofs.Ytbiadhgkpggdeaa
