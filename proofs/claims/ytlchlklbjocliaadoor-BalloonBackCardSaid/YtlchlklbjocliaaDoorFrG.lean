/- frames: Alloc. -/
import Derived.Test.YtlchlklbjocliaaDoorFrF
import Derived.BigRegion
namespace Go.Proofs.YtlchlklbjocliaaDoor
open Go Go.RowKit
set_option linter.unusedSimpArgs false
set_option linter.unusedVariables false
set_option maxRecDepth 100000
def lowOf (w : World) (p : Nat) : Int := intOf ((w.cell? ⟨p, 38, none⟩).getD undef)
theorem FrAt.setLow {w : World} {p bt bw n first low low' : Nat} {T O : Nat → Nat} {quo : Nat → Int} (h : FrAt w p bt bw n first T O quo low) (hl : low' ≤ n) (hf : first ≤ low') (hb : ∀ i, i < low' → 0 < T i) : FrAt (w.setCell ⟨p, 38, none⟩ (.int .i64 (low' : Nat))) p bt bw n first T O quo low' := by
  have hc : Chg [p] w (w.setCell ⟨p, 38, none⟩ (.int .i64 (low' : Nat))) := (Chg.refl _ _).setCell (Or.inl (by simp)) _ _
  have hne := h.ne
  obtain ⟨s, g, g0, g1, g2⟩ := h.wh
  exact ⟨h.row.setLow low', IMap.chg' h.tm hc (by simp; omega), ⟨s, g, g0, IMap.chg' g1 hc (by simp; omega), g2⟩, h.n1, h.n2, hf, hl, hb, h.ob, h.tb, hne⟩
theorem lowOf_at {w : World} {p bt bw n first low : Nat} {T O : Nat → Nat} {quo : Nat → Int} (h : FrAt w p bt bw n first T O quo low) : lowOf w p = low := by
  unfold lowOf; rw [h.row.cells.2.2.2.2]; rfl
theorem Alloc_bad {w : World} {p bt bw n first low : Nat} {T O : Nat → Nat} {quo : Nat → Int} (h : FrAt w p bt bw n first T O quo low) {who : Int} (hw : ¬ isOwn who) :
    Calls Tryd.prog 29 #[.pointer (some ⟨p, 0, none⟩), .int .i64 who] w fun r w' => r = .returned (.tuple #[.int .i64 0, .int .i64 2]) ∧ Grows w w' := by
  have hg : Grows w (w.alloc (Obj.cells #[.int .i64 who] 3)) := (Grows.refl _).alloc _
  have hr : Row (w.alloc (Obj.cells #[.int .i64 who] 3)) w.heap.size #[.int .i64 who] 3 := Row.new w _ _
  have ho := owned_1 (h.grows hg) who (hr.cell 0)
  rw [if_neg hw] at ho
  clear h hr hw
  go_enter Tryd.func29, Tryd.ntmps29
  go_wp2_with fail
  refine (ho).mono ?_
  rintro _ _ ⟨rfl, hw⟩
  rw [hw]
  clear hw
  go_wp2_with fail
  go_ret2
  exact ⟨rfl, hg⟩
theorem Alloc_quota {w : World} {p bt bw n first low o : Nat} {T O : Nat → Nat} {quo : Nat → Int} (h : FrAt w p bt bw n first T O quo low) (ho17 : o < 17) (hq : quo o ≤ ownC n T O o) :
    Calls Tryd.prog 29 #[.pointer (some ⟨p, 0, none⟩), .int .i64 o] w fun r w' => r = .returned (.tuple #[.int .i64 0, .int .i64 19]) ∧ Grows w w' := by
  have hg : Grows w (w.alloc (Obj.cells #[.int .i64 (o : Int)] 3)) := (Grows.refl _).alloc _
  have hr : Row (w.alloc (Obj.cells #[.int .i64 (o : Int)] 3)) w.heap.size #[.int .i64 (o : Int)] 3 := Row.new w _ _
  have ho := owned_1 (h.grows hg) (o : Int) (hr.cell 0)
  rw [if_pos (show isOwn (o : Int) from ⟨by omega, by omega⟩)] at ho
  obtain ⟨w1, hw1⟩ : ∃ w1, w1 = w.alloc (Obj.cells #[.int .i64 (o : Int)] 3) := ⟨_, rfl⟩
  have HG : Hid (Grows w w1) := by show Grows _ _; rw [hw1]; exact hg
  have H1 : Hid (FrAt w1 p bt bw n first T O quo low) := h.grows HG.out
  rw [← hw1] at ho
  clear h hr hg
  go_enter Tryd.func29, Tryd.ntmps29
  go_wp2_with fail
  rw [← hw1]
  clear hw1
  obtain ⟨c0, c1, c2, c3, c4⟩ := H1.out.row.cells
  have l1 := H1.out.row.lt
  have co := H1.out.row.own ho17
  have cq := H1.out.row.quo ho17
  have i1 : (o : Int) < 17 := by omega
  have i2 : (0 : Int) ≤ (o : Int) := by omega
  refine (ho).mono ?_
  rintro _ _ ⟨rfl, hw⟩
  rw [hw]
  clear hw
  go_wp2_with fail
  generalize ownC n T O o = ov at *
  generalize quo o = qv at *
  refine wp_region_grow (by kernel_rfl) (by kernel_rfl) ?_
  repeat (go_big_quiet_step ((fail)))
  refine wpQuiet_nil ?_
  intro _ hw'
  obtain ⟨gg, rfl⟩ := hw'
  go_wp2_with fail
  go_ret2
  exact ⟨rfl, HG.out.trans (Grows.of w1 gg)⟩
theorem alloc_chg {w w2 w4 Z4 Y : World} {p bt bw a : Nat} {v : Value} (hg : Grows w w2) (h4 : Chg [p] w2 w4) (hz : Chg [bt, bw] w4.drew Z4) (hy : Grows Z4 Y) : Chg [p, bt, bw] w (Y.setCell ⟨p, a, none⟩ v) :=
  (((((Chg.of_grows hg).trans (h4.weaken (by simp))).trans (Chg.of_grows ((Grows.refl w4).drew))).trans (hz.weaken (by simp))).grows hy).setCell (Or.inl (by simp)) _ _
theorem alloc_end {w4 Z4 Y : World} {p bt bw n first k o s a : Nat} {T O own' : Nat → Nat} {g : Int → Option Int} {quo : Nat → Int} {v : Value} (h : FrAt w4 p bt bw n first T O quo k) (hown : ownC n (upF T k 1) (upF O k o) = own')
    (hI : IMap Tryd.prog 3 3 Z4 bt (heldC n T + 1) (imUpd (tmF n T) (k : Int) 1)) (hJ : IMap Tryd.prog 3 3 Z4 bw (s + 1) (imUpd g (k : Int) (o : Int))) (hs : s ≤ heldC n T)
    (hr : FrRow (Y.setCell ⟨p, a, none⟩ v) p bt bw n first own' quo k) (hy : Grows Z4 Y) (hk : k < n) (hT : T k = 0) (ho : o < 17)
    (g1 : ∀ i, i < n → 0 < T i → (g i).getD 0 = O i) (g2 : ∀ i : Nat, first ≤ i → i < n → 0 < T i → (g i).isSome) (g3 : ∀ x : Int, ¬ (0 ≤ x ∧ x < n ∧ 0 < T x.toNat) → g x = none) :
    FrAt (Y.setCell ⟨p, a, none⟩ v) p bt bw n first (upF T k 1) (upF O k o) quo k := by
  have hne := h.ne
  have hc : Chg [p] Z4 (Y.setCell ⟨p, a, none⟩ v) := (Chg.of_grows hy).setCell (Or.inl (by simp)) _ _
  refine ⟨by rw [hown]; exact hr, ?_, ⟨s + 1, _, ?_, IMap.chg' hJ hc (by simp; omega), fun i hi ht => ?_, fun i hf hi ht => ?_, fun x hx => ?_⟩, h.n1, h.n2, h.fl, h.lo, fun i hi => ?_, fun i hi ht => ?_, fun i hi => ?_, hne⟩
  · rw [heldC_new hk hT (by omega), tmF_put hk (by omega)]
    exact IMap.chg' hI hc (by simp; omega)
  · rw [heldC_new hk hT (by omega)]; omega
  · unfold imUpd
    by_cases e : i = k
    · rw [if_pos (by omega), e, upF_same]; rfl
    · rw [if_neg (by omega), upF_ne _ _ e]; rw [upF_ne _ _ e] at ht; exact g1 i hi ht
  · unfold imUpd
    by_cases e : i = k
    · rw [if_pos (by omega)]; rfl
    · rw [if_neg (by omega)]; rw [upF_ne _ _ e] at ht; exact g2 i hf hi ht
  · unfold imUpd
    rw [if_neg (fun e => hx (by rw [e]; exact ⟨by omega, by omega, by rw [Int.toNat_natCast, upF_same]; omega⟩))]
    refine g3 x (fun hh => hx ⟨hh.1, hh.2.1, ?_⟩)
    have e : x.toNat ≠ k := fun e => by have := hh.2.2; rw [e] at this; omega
    rw [upF_ne _ _ e]; exact hh.2.2
  · rw [upF_ne _ _ (by omega)]; exact h.below i hi
  · by_cases e : i = k
    · rw [e, upF_same]; exact ho
    · rw [upF_ne _ _ e] at ht ⊢; exact h.ob i hi ht
  · by_cases e : i = k
    · rw [e, upF_same]; omega
    · rw [upF_ne _ _ e]; exact h.tb i hi
set_option maxRecDepth 100000 in
set_option maxHeartbeats 2000000 in
/-- The least frame that is nobody's, or none. -/
theorem Alloc_any {w : World} {p bt bw n first low o : Nat} {T O : Nat → Nat} {quo : Nat → Int} (h : FrAt w p bt bw n first T O quo low) (ho17 : o < 17) (hq : (ownC n T O o : Int) < quo o) :
    Calls Tryd.prog 29 #[.pointer (some ⟨p, 0, none⟩), .int .i64 o] w fun r w' => ((∃ k, k < n ∧ (∀ i, i < k → 0 < T i) ∧ T k = 0 ∧ first ≤ k ∧ r = .returned (.tuple #[.int .i64 k, .int .i64 0]) ∧ FrAt w' p bt bw n first (upF T k 1) (upF O k o) quo k) ∨
      ((∀ i, i < n → 0 < T i) ∧ r = .returned (.tuple #[.int .i64 0, .int .i64 20]) ∧ FrAt w' p bt bw n first T O quo n)) ∧ Chg [p, bt, bw] w w' := by
  have hg : Grows w (w.alloc (Obj.cells #[.int .i64 (o : Int)] 3)) := (Grows.refl _).alloc _
  have hr : Row (w.alloc (Obj.cells #[.int .i64 (o : Int)] 3)) w.heap.size #[.int .i64 (o : Int)] 3 := Row.new w _ _
  have ho := owned_1 (h.grows hg) (o : Int) (hr.cell 0)
  rw [if_pos (show isOwn (o : Int) from ⟨by omega, by omega⟩)] at ho
  obtain ⟨w1, hw1⟩ : ∃ w1, w1 = w.alloc (Obj.cells #[.int .i64 (o : Int)] 3) := ⟨_, rfl⟩
  have HG : Hid (Grows w w1) := by show Grows _ _; rw [hw1]; exact hg
  have H1 : Hid (FrAt w1 p bt bw n first T O quo low) := h.grows HG.out
  rw [← hw1] at ho
  clear h hr hg
  go_enter Tryd.func29, Tryd.ntmps29
  go_wp2_with fail
  rw [← hw1]
  clear hw1
  obtain ⟨c0, c1, c2, c3, c4⟩ := H1.out.row.cells
  have l1 := H1.out.row.lt
  have co := H1.out.row.own ho17
  have cq := H1.out.row.quo ho17
  have i1 : (o : Int) < 17 := by omega
  have i2 : (0 : Int) ≤ (o : Int) := by omega
  refine (ho).mono ?_
  rintro _ _ ⟨rfl, hw⟩
  rw [hw]
  clear hw
  go_wp2_with fail
  have HQ := Lib.hid hq
  have dQ : decide (quo o ≤ (ownC n T O o : Int)) = false := decide_eq_false (by omega)
  have hole : ownC n T O o ≤ n := ownC_le
  obtain ⟨ov, hov⟩ : ∃ ov, ov = ownC n T O o := ⟨_, rfl⟩
  obtain ⟨qv, hqv⟩ : ∃ qv, qv = quo o := ⟨_, rfl⟩
  rw [← hov] at co dQ
  rw [← hqv] at cq dQ
  clear hov hqv hq
  refine wp_region_grow (by kernel_rfl) (by kernel_rfl) ?_
  repeat (go_big_quiet_step ((fail)))
  refine wpQuiet_nil ?_
  intro _ hw'
  obtain ⟨gg, rfl⟩ := hw'
  go_wp2_with fail
  clear co cq dQ
  obtain ⟨w2, hw2⟩ : ∃ w2, w2 = w1.grow gg := ⟨_, rfl⟩
  have H2 : Hid (FrAt w2 p bt bw n first T O quo low) := by show FrAt _ _ _ _ _ _ _ _ _ _; rw [hw2]; exact H1.out.grows (Grows.of w1 gg)
  have HG2 : Hid (Grows w w2) := by show Grows _ _; rw [hw2]; exact HG.out.trans (Grows.of w1 gg)
  rw [← hw2]
  clear hw2 c0 c1 c2 c3 c4 l1 H1 HG
  go_loopw [32] (fun _ wr => ∃ k, FrAt wr p bt bw n first T O quo k ∧ Chg [p] w2 wr) (fun _ wr => (n - lowOf wr p).toNat)
  case atStart => exact ⟨low, H2.out, Chg.refl _ _⟩
  case round =>
    obtain ⟨k, hF, hC⟩ := hrel
    obtain ⟨c0, c1, c2, c3, c4⟩ := hF.row.cells
    have l1 := hF.row.lt
    have f1 := hF.row.frozen 38
    have hn2 := hF.n2
    have hlo := hF.lo
    have HL := Lib.hid (lowOf_at hF)
    have HC := Lib.hid hC
    have HF := Lib.hid hF
    clear hC
    by_cases hkn : k < n
    · have ht : ∀ g, (Instr.lookup 29 (.map (some bt)) (.int .i64 k) false).run Tryd.prog (wr.grow g) = .ok (.int .i64 (T k : Nat)) (wr.grow g) := fun g => (hF.grows (Grows.of wr g)).look_tj hkn
      clear hF
      by_cases hT : 0 < T k
      · have HT := Lib.hid hT
        have dT : decide ((0 : Int) < (T k : Int)) = true := decide_eq_true (by omega)
        obtain ⟨tk, htk⟩ : ∃ tk, tk = T k := ⟨_, rfl⟩
        rw [← htk] at ht dT hT
        clear htk
        go_wp2_with fail
        refine wp_region_grow (by kernel_rfl) (by kernel_rfl) ?_
        repeat (go_big_quiet_step ((fail)))
        refine wpQuiet_nil ?_
        intro _ hw'
        obtain ⟨g2, rfl⟩ := hw'
        have hX := HF.out.grows (Grows.of wr g2)
        have HC2 := Lib.hid (HC.out.trans (Chg.of_grows (Grows.of wr g2)))
        have HX := Lib.hid hX
        have fX := hX.row.frozen 38
        have HS : Hid (FrAt ((wr.grow g2).setCell ⟨p, 38, none⟩ (.int .i64 (k + 1 : Nat))) p bt bw n first T O quo (k + 1)) := hX.setLow (by omega) (by have := hX.fl; omega) (fun i hi => by
          by_cases e : i = k
          · rw [e]; exact HT.out
          · exact hX.below i (by omega))
        have dk : IntKind.i64.wrap ((k : Int) + 1) = ((k + 1 : Nat) : Int) := by rw [IntKind.wrap_i64]; omega
        clear hX
        obtain ⟨k1, hk1⟩ : ∃ k1, k1 = k + 1 := ⟨_, rfl⟩
        rw [← hk1] at dk HS
        have HK := Lib.hid hk1
        clear hk1
        go_wp2_with fail
        refine ⟨⟨k1, HS.out, HC2.out.setCell (Or.inl (by simp)) _ _⟩, ?_⟩
        rw [lowOf_at HS.out, HL.out]
        have := HK.out
        omega
      · have hT0 : T k = 0 := by omega
        rw [hT0] at ht
        have HT0 := Lib.hid hT0
        clear hT hT0
        go_wp2_with fail
        refine wp_region_grow (by kernel_rfl) (by kernel_rfl) ?_
        repeat (go_big_quiet_step ((fail)))
        refine wpQuiet_nil ?_
        intro _ hw'
        obtain ⟨g2, rfl⟩ := hw'
        go_wp2_with fail
        obtain ⟨w3, hw3⟩ : ∃ w3, w3 = wr.grow g2 := ⟨_, rfl⟩
        have H3 : Hid (FrAt w3 p bt bw n first T O quo k) := by show FrAt _ _ _ _ _ _ _ _ _ _; rw [hw3]; exact HF.out.grows (Grows.of wr g2)
        have HC3 : Hid (Chg [p] w2 w3) := by show Chg _ _ _; rw [hw3]; exact HC.out.trans (Chg.of_grows (Grows.of wr g2))
        rw [← hw3]
        clear hw3 c0 c1 c2 c3 c4 l1 f1
        obtain ⟨c0, c1, c2, c3, c4⟩ := H3.out.row.cells
        have l1 := H3.out.row.lt
        refine wp_region_grow (by kernel_rfl) (by kernel_rfl) ?_
        repeat (go_big_quiet_step ((fail)))
        refine wpQuiet_nil ?_
        intro _ hw'
        obtain ⟨g3, rfl⟩ := hw'
        obtain ⟨w4, hw4⟩ : ∃ w4, w4 = w3.grow g3 := ⟨_, rfl⟩
        have H4 : Hid (FrAt w4 p bt bw n first T O quo k) := by show FrAt _ _ _ _ _ _ _ _ _ _; rw [hw4]; exact H3.out.grows (Grows.of w3 g3)
        have HC4 : Hid (Chg [p] w2 w4) := by show Chg _ _ _; rw [hw4]; exact HC3.out.trans (Chg.of_grows (Grows.of w3 g3))
        rw [← hw4]
        clear hw4 c0 c1 c2 c3 c4 l1 H3 HC3
        go_wp2_with fail
        have hne := H4.out.ne
        obtain ⟨s, g, gs, gI, q1, q2, q3⟩ := H4.out.wh
        have wk : wf64 (k : Int) := wf_of (by omega) (by omega)
        have hlt : heldC n T < maxLen := by have : heldC n T ≤ n := cn_le; unfold maxLen; omega
        have hZ : Grows w4 w4.drew := (Grows.refl _).drew
        have HZF := Lib.hid (H4.out.grows hZ)
        have gZ := IMap.grows gI hZ
        obtain ⟨d0, d1, d2, d3, d4⟩ := HZF.out.row.cells
        obtain ⟨c0, c1, c2, c3, c4⟩ := H4.out.row.cells
        have lz := HZF.out.row.lt
        obtain ⟨Z1, st1, e1, hg1, hs1⟩ := HZF.out.tm.entry Tryd.underlying3 Tryd.underlying3 Tryd.underlying29 (zero_int w4.drew) hlt wk (by rw [tmF_at hkn, HT0.out]; rfl)
        obtain ⟨Z2, e2, hI2, hg2'⟩ := hs1 Z1 rfl 1 (wf_of (by omega) (by omega))
        have hcz1 := Chg.of_grown hg1
        have hcz2 := Chg.of_grown hg2'
        have gZ2 := IMap.chg' (IMap.chg' gZ hcz1 (by simp; omega)) hcz2 (by simp; omega)
        obtain ⟨Z3, st3, e3, hg3', hs3⟩ := gZ2.entry Tryd.underlying3 Tryd.underlying3 Tryd.underlying29 (zero_int Z2) (by omega) wk (q3 k (fun hh => by have := hh.2.2; rw [Int.toNat_natCast, HT0.out] at this; omega))
        obtain ⟨Z4, e4, hI4, hg4⟩ := hs3 Z3 rfl (o : Int) (wf_of (by omega) (by omega))
        have hcz3 := Chg.of_grown hg3'
        have hcz4 := Chg.of_grown hg4
        have hcz : Chg [bt, bw] w4.drew Z4 := (((hcz1.weaken (by simp)).trans (hcz2.weaken (by simp))).trans (hcz3.weaken (by simp))).trans (hcz4.weaken (by simp))
        have R4 := Lib.hid (HZF.out.row.chg hcz (by simp; omega))
        have I4 := Lib.hid (IMap.chg' (IMap.chg' hI2 hcz3 (by simp; omega)) hcz4 (by simp; omega))
        have J4 := Lib.hid hI4
        have HCZ := Lib.hid hcz
        have GZ := Lib.hid hZ
        have Q1 := Lib.hid q1
        have Q2 := Lib.hid q2
        have Q3 := Lib.hid q3
        clear q1 q2 q3 hs1 hs3 hg1 hg2' hg3' hg4 hcz1 hcz2 hcz3 hcz4 hcz hI2 hI4 gZ gZ2 gI hZ ht
        go_region
        go_wp2_with fail
        clear d0 d1 d2 d3 d4 c0 c1 c2 c3 c4 lz e1 e2 e3 e4
        obtain ⟨Y, hV⟩ : ∃ V, V = World.drew Z4 := ⟨_, rfl⟩
        have hY : Grows Z4 Y := by rw [hV]; exact (Grows.refl _).drew
        refine wp_region_still_tail 10 (by kernel_rfl) (by kernel_rfl) ?_
        simp only [List.take_succ_cons, List.take_zero, List.drop_succ_cons, List.drop_zero]
        change wpStill _ _ (World.drew Z4) _ _ _
        rw [← hV]
        have HY := Lib.hid hV
        clear hV
        have RY := Lib.hid (FrRow.chg (S := []) R4.out (Chg.of_grows hY) (by simp))
        have co := RY.out.own ho17
        have fo := RY.out.frozen (4 + o)
        have lz := RY.out.lt
        have cl := RY.out.cells.2.2.2.2
        have R5 := Lib.hid (RY.out.setOwn ho17 (ownC n T O o + 1))
        have GY := Lib.hid hY
        have HOWN := Lib.hid (ownC_new (v := 1) (o := o) (O := O) hkn HT0.out (by omega))
        have dw : IntKind.i64.wrap ((ownC n T O o : Int) + 1) = ((ownC n T O o + 1 : Nat) : Int) := by rw [IntKind.wrap_i64]; omega
        obtain ⟨vc, hvc⟩ : ∃ vc, vc = ownC n T O o + 1 := ⟨_, rfl⟩
        rw [← hvc] at dw R5 HOWN
        obtain ⟨vb, hvb⟩ : ∃ vb, vb = ownC n T O o := ⟨_, rfl⟩
        rw [← hvb] at co dw
        have HE := Lib.hid (alloc_end H4.out HOWN.out I4.out J4.out (by omega) R5.out GY.out hkn HT0.out ho17 Q1.out Q2.out Q3.out)
        clear hvc hvb hY hole
        repeat still_step
        refine wpStill_nil ?_
        change wpList _ _ _ _ _ (World.drew Z4)
        rw [← (HY).out]
        go_wp2_with fail
        go_ret2
        exact ⟨Or.inl ⟨k, hkn, H4.out.below, HT0.out, H4.out.fl, rfl, HE.out⟩, alloc_chg HG2.out HC4.out HCZ.out GY.out⟩
    · have : n = k := by omega
      subst this
      clear hkn hF
      go_wp2_with fail
      refine wp_region_grow (by kernel_rfl) (by kernel_rfl) ?_
      repeat (go_big_quiet_step ((fail)))
      refine wpQuiet_nil ?_
      intro _ hw'
      obtain ⟨g2, rfl⟩ := hw'
      go_wp2_with fail
      obtain ⟨w3, hw3⟩ : ∃ w3, w3 = wr.grow g2 := ⟨_, rfl⟩
      have H3 : Hid (FrAt w3 p bt bw n first T O quo n) := by show FrAt _ _ _ _ _ _ _ _ _ _; rw [hw3]; exact HF.out.grows (Grows.of wr g2)
      have HC3 : Hid (Chg [p] w2 w3) := by show Chg _ _ _; rw [hw3]; exact HC.out.trans (Chg.of_grows (Grows.of wr g2))
      rw [← hw3]
      clear hw3 c0 c1 c2 c3 c4 l1 f1
      obtain ⟨c0, c1, c2, c3, c4⟩ := H3.out.row.cells
      have l1 := H3.out.row.lt
      refine wp_region_grow (by kernel_rfl) (by kernel_rfl) ?_
      repeat (go_big_quiet_step ((fail)))
      refine wpQuiet_nil ?_
      intro _ hw'
      obtain ⟨g3, rfl⟩ := hw'
      obtain ⟨w4, hw4⟩ : ∃ w4, w4 = w3.grow g3 := ⟨_, rfl⟩
      have H4 : Hid (FrAt w4 p bt bw n first T O quo n) := by show FrAt _ _ _ _ _ _ _ _ _ _; rw [hw4]; exact H3.out.grows (Grows.of w3 g3)
      have HC4 : Hid (Chg [p] w2 w4) := by show Chg _ _ _; rw [hw4]; exact HC3.out.trans (Chg.of_grows (Grows.of w3 g3))
      rw [← hw4]
      clear hw4 c0 c1 c2 c3 c4 l1 H3 HC3
      go_wp2_with fail
      go_ret2
      exact ⟨Or.inr ⟨H4.out.below, rfl, H4.out⟩, ((Chg.of_grows HG2.out).trans (HC4.out.weaken (by simp)))⟩
end Go.Proofs.YtlchlklbjocliaaDoor
