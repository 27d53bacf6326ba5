/- The reference of the package frames: what its functions change. -/
import Derived.Test.YtbiadhgkpggdeaaRFr
namespace Go.Proofs.Ytbiadhgkpggdeaa
open Go Go.RowKit
set_option linter.unusedSimpArgs false
set_option linter.unusedVariables false
set_option maxRecDepth 100000 in
theorem RHold_all {w : World} {rp rq n first : Nat} {T O T' : Nat → Nat} {quo : Nat → Int} {e x who : Int} (h : RfAt w rp rq n first T O quo) (hR : HoldR n T O x who T' e) :
    Calls Try.prog 26 #[.pointer (some ⟨rp, 0, none⟩), .int .i64 x, .int .i64 who] w fun r w' => r = .returned (.int .i64 e) ∧ RfAt w' rp rq n first T' O quo ∧ Chg [rp, rq] w w' := by
  have hwr := rwrong_any h x who
  have hn2 := h.n2
  rcases hR with ⟨he, hee, hTT⟩ | ⟨j, rfl, hj, hT, hO, hR⟩
  · rw [← hee] at hwr he
    obtain rfl := hTT.symm
    clear hee
    have hb : (e != 0) = true := by simp; exact he
    go_enter Try.func26, Try.ntmps26
    go_wp2_with fail
    refine hwr.mono ?_
    rintro _ w2 ⟨rfl, hg2⟩
    have HF := Lib.hid (h.grows hg2)
    have HC := Lib.hid (Chg.of_grows (S := [rp, rq]) hg2)
    clear h hwr hg2
    go_wp2_with fail
    go_ret
    exact ⟨by trivial, HF.out, HC.out⟩
  · subst hO
    have ho17 := h.ob j hj hT
    rw [show wrE n T O j (O j) (e1 (O j)) = 0 from wrE_ok hj hT rfl ho17] at hwr
    rcases hR with ⟨h1, rfl, hTT⟩ | ⟨h1, rfl, rfl⟩
    · obtain rfl := hTT.symm
      go_enter Try.func26, Try.ntmps26
      go_wp2_with fail
      refine hwr.mono ?_
      rintro _ w2 ⟨rfl, hg2⟩
      have HF := Lib.hid (h.grows hg2)
      have HC := Lib.hid (Chg.of_grows (S := [rp, rq]) hg2)
      obtain ⟨c0, c1⟩ := HF.out.cells
      have ct := HF.out.tm hj
      have hge : (65536 : Int) ≤ T j := by omega
      generalize T j = tj at *
      clear h hwr hg2
      go_wp2_with fail
      go_ret
      exact ⟨by trivial, HF.out, HC.out⟩
    · go_enter Try.func26, Try.ntmps26
      go_wp2_with fail
      refine hwr.mono ?_
      rintro _ w2 ⟨rfl, hg2⟩
      have HF := Lib.hid ((h.grows hg2).setT hj hT (v := T j + 1) (by omega))
      have HC := Lib.hid ((Chg.of_grows (S := [rp, rq]) hg2).setCell (b := rq) (Or.inl (by simp)) (j * 2 + 1) (.int .i64 (T j + 1 : Nat)))
      obtain ⟨c0, c1⟩ := (h.grows hg2).cells
      have ct := (h.grows hg2).tm hj
      have fr := ((h.grows hg2).frozen (j * 2 + 1)).2
      rw [show ((T j + 1 : Nat) : Int) = (T j : Int) + 1 by omega] at HF HC
      clear h hwr hg2 c1
      have ht1 : ¬ (65536 : Int) ≤ T j := by omega
      have ht2 : (0 : Int) < T j := by omega
      generalize (T j : Int) = tj at *
      clear h1 hT
      go_wp2_with fail
      go_ret
      exact ⟨by trivial, HF.out, HC.out⟩
set_option maxHeartbeats 1000000 in
theorem RFree_all {w : World} {rp rq n first : Nat} {T O T' : Nat → Nat} {quo : Nat → Int} {fl : Bool} {e x who : Int} (h : RfAt w rp rq n first T O quo) (hR : FreeR n first T O x who T' fl e) :
    Calls Try.prog 27 #[.pointer (some ⟨rp, 0, none⟩), .int .i64 x, .int .i64 who] w fun r w' => r = .returned (.tuple #[.bool fl, .int .i64 e]) ∧ RfAt w' rp rq n first T' O quo ∧ Chg [rp, rq] w w' := by
  have hwr := rwrong_any h x who
  have hn2 := h.n2
  rcases hR with ⟨he, hee, rfl, hTT⟩ | ⟨j, rfl, hj, hT, hO, hR⟩
  · rw [← hee] at hwr he
    obtain rfl := hTT.symm
    clear hee
    have hb : (e != 0) = true := by simp; exact he
    go_enter Try.func27, Try.ntmps27
    go_wp2_with fail
    refine hwr.mono ?_
    rintro _ w2 ⟨rfl, hg2⟩
    have HF := Lib.hid (h.grows hg2)
    have HC := Lib.hid (Chg.of_grows (S := [rp, rq]) hg2)
    clear h hwr hg2
    go_wp2_with fail
    go_ret2
    exact ⟨by trivial, HF.out, HC.out⟩
  · subst hO
    have ho17 := h.ob j hj hT
    have htb := h.tb j hj
    rw [show wrE n T O j (O j) (e1 (O j)) = 0 from wrE_ok hj hT rfl ho17] at hwr
    rcases hR with ⟨h1, rfl, rfl, hTT⟩ | ⟨h1, rfl, rfl, rfl⟩
    · obtain rfl := hTT.symm
      go_enter Try.func27, Try.ntmps27
      go_wp2_with fail
      refine hwr.mono ?_
      rintro _ w2 ⟨rfl, hg2⟩
      have HF := Lib.hid (h.grows hg2)
      have HC := Lib.hid (Chg.of_grows (S := [rp, rq]) hg2)
      obtain ⟨c0, c1⟩ := HF.out.cells
      clear h hwr hg2
      go_wp2_with fail
      go_ret2
      exact ⟨by trivial, HF.out, HC.out⟩
    · have hnf : ¬ (j : Int) < first := by omega
      have hsub : ((T j - 1 : Nat) : Int) = (T j : Int) - 1 := by omega
      by_cases h1 : T j = 1
      · rw [show decide (T j = 1) = true from decide_eq_true h1]
        go_enter Try.func27, Try.ntmps27
        go_wp2_with fail
        refine hwr.mono ?_
        rintro _ w2 ⟨rfl, hg2⟩
        have HF := Lib.hid ((h.grows hg2).setT hj hT (v := T j - 1) (by omega))
        have HC := Lib.hid ((Chg.of_grows (S := [rp, rq]) hg2).setCell (b := rq) (Or.inl (by simp)) (j * 2 + 1) (.int .i64 (T j - 1 : Nat)))
        obtain ⟨c0, c1⟩ := (h.grows hg2).cells
        have ct := (h.grows hg2).tm hj
        have fr := ((h.grows hg2).frozen (j * 2 + 1)).2
        have e0 := HF.out.cells.1
        have et := HF.out.tm hj
        rw [upF_same] at et
        rw [hsub] at HF HC e0 et
        have HF2 := Lib.hid (HF.out.drop hj)
        have HC2 := Lib.hid ((HC.out.setCell (b := rq) (Or.inl (by simp)) (j * 2) (.int .i64 (0 : Nat))).setCell (b := rq) (Or.inl (by simp)) (j * 2 + 1) (.int .i64 (0 : Nat)))
        have fa := ((h.grows hg2).frozen (j * 2)).2
        have co := (h.grows hg2).ow hj hT
        have hup : upF (upF T j (T j - 1)) j 0 = upF T j (T j - 1) := by
          rw [h1]; funext i; unfold upF; by_cases e : i = j <;> simp [e]
        rw [hup] at HF2
        rw [show (T j : Int) - 1 = 0 by omega, show (((0 : Nat)) : Int) = (0 : Int) from rfl] at HF2 HC2
        rw [show (T j : Int) - 1 = 0 by omega] at e0 et
        rw [h1] at ct
        clear h hwr hg2 HF HC hup hsub
        go_wp2_with fail
        go_ret2
        exact ⟨by trivial, HF2.out, HC2.out⟩
      · rw [show decide (T j = 1) = false from decide_eq_false h1]
        go_enter Try.func27, Try.ntmps27
        go_wp2_with fail
        refine hwr.mono ?_
        rintro _ w2 ⟨rfl, hg2⟩
        have HF := Lib.hid ((h.grows hg2).setT hj hT (v := T j - 1) (by omega))
        have HC := Lib.hid ((Chg.of_grows (S := [rp, rq]) hg2).setCell (b := rq) (Or.inl (by simp)) (j * 2 + 1) (.int .i64 (T j - 1 : Nat)))
        obtain ⟨c0, c1⟩ := (h.grows hg2).cells
        have ct := (h.grows hg2).tm hj
        have fr := ((h.grows hg2).frozen (j * 2 + 1)).2
        have e0 := HF.out.cells.1
        have et := HF.out.tm hj
        rw [upF_same] at et
        rw [hsub] at HF HC e0 et
        have hb1 : ((T j : Int) - 1 == 0) = false := by simp; omega
        clear h hwr hg2 hsub
        go_wp2_with fail
        go_ret2
        exact ⟨by trivial, HF.out, HC.out⟩
theorem own_nat (n : Nat) (T O : Nat → Nat) {k : Nat} (hk : k < 17) : ownI n T O (k : Int) = ownC n T O k := by unfold ownI; rw [if_pos (show isOwn (k : Int) from ⟨by omega, by omega⟩), Int.toNat_natCast]
set_option maxHeartbeats 2000000 in
theorem RMove_all {w : World} {rp rq n first : Nat} {T O O' : Nat → Nat} {quo : Nat → Int} {e x a b : Int} (h : RfAt w rp rq n first T O quo) (hR : MoveR n first T O quo x a b O' e) :
    Calls Try.prog 28 #[.pointer (some ⟨rp, 0, none⟩), .int .i64 x, .int .i64 a, .int .i64 b] w fun r w' => r = .returned (.int .i64 e) ∧ RfAt w' rp rq n first T O' quo ∧ Chg [rp, rq] w w' := by
  have hwr := rwrong_any h x a
  have hio := rowner_is b w
  have hn2 := h.n2
  rcases hR with ⟨he, hee, hTT⟩ | ⟨j, b', rfl, rfl, hb17, hj, hT, hO, hR⟩
  · obtain rfl := hTT.symm
    by_cases hb : isOwn b
    · rw [show e2 a b = e1 a by unfold e2 e1; by_cases ha : isOwn a <;> simp [ha, hb]] at he hee
      rw [← hee] at hwr he
      rw [decide_eq_true hb] at hio
      have hbb : (e != 0) = true := by simp; exact he
      clear hee hb
      go_enter Try.func28, Try.ntmps28
      go_wp2_with fail
      refine (hio).mono ?_
      rintro _ _ ⟨rfl, hw⟩
      rw [hw]
      clear hw
      go_wp2_with fail
      refine hwr.mono ?_
      rintro _ w2 ⟨rfl, hg2⟩
      have HF := Lib.hid (h.grows hg2)
      have HC := Lib.hid (Chg.of_grows (S := [rp, rq]) hg2)
      clear h hwr hg2
      go_wp2_with fail
      go_ret
      exact ⟨by trivial, HF.out, HC.out⟩
    · rw [show e2 a b = 2 by unfold e2; rw [if_neg (fun h => hb h.2)]] at hee
      obtain rfl : e = 2 := by rw [hee]; unfold wrE; rw [if_pos (by omega)]
      rw [decide_eq_false hb] at hio
      have HF := Lib.hid h
      clear hee hb he h hwr
      go_enter Try.func28, Try.ntmps28
      go_wp2_with fail
      refine (hio).mono ?_
      rintro _ _ ⟨rfl, hw⟩
      rw [hw]
      clear hw
      go_wp2_with fail
      go_ret
      exact ⟨by trivial, HF.out, Chg.refl _ _⟩
  · subst hO
    have ho17 := h.ob j hj hT
    have htb := h.tb j hj
    rw [show wrE n T O j (O j) (e1 (O j)) = 0 from wrE_ok hj hT rfl ho17] at hwr
    rw [decide_eq_true (show isOwn (b' : Int) from ⟨by omega, by omega⟩)] at hio
    rcases hR with ⟨hs, rfl, hTT⟩ | ⟨hf, h1, hne, hq, rfl, hTT⟩ | ⟨hf, h1, hq, rfl, rfl⟩
    · obtain rfl := hTT.symm
      go_enter Try.func28, Try.ntmps28
      go_wp2_with fail
      refine (hio).mono ?_
      rintro _ _ ⟨rfl, hw⟩
      rw [hw]
      clear hw
      go_wp2_with fail
      refine hwr.mono ?_
      rintro _ w2 ⟨rfl, hg2⟩
      have HF := Lib.hid (h.grows hg2)
      have HC := Lib.hid (Chg.of_grows (S := [rp, rq]) hg2)
      obtain ⟨c0, c1⟩ := HF.out.cells
      have ct := HF.out.tm hj
      by_cases hf : j < first
      · clear h hwr hg2 hs
        go_wp2_with fail
        go_ret
        exact ⟨by trivial, HF.out, HC.out⟩
      · have h1 : (1 : Int) < T j := by omega
        have hnf : ¬ (j : Int) < first := by omega
        clear h hwr hg2 hs
        go_wp2_with fail
        go_ret
        exact ⟨by trivial, HF.out, HC.out⟩
    · obtain rfl := hTT.symm
      have hnf : ¬ (j : Int) < first := by omega
      have hnab : ((O j : Int) != (b' : Int)) = true := by simp; omega
      go_enter Try.func28, Try.ntmps28
      go_wp2_with fail
      refine (hio).mono ?_
      rintro _ _ ⟨rfl, hw⟩
      rw [hw]
      clear hw
      go_wp2_with fail
      refine hwr.mono ?_
      rintro _ w2 ⟨rfl, hg2⟩
      obtain ⟨c0, c1⟩ := (h.grows hg2).cells
      have ct := (h.grows hg2).tm hj
      rw [h1] at ct
      have hcnt := RCount_any (h.grows hg2) (b' : Int)
      rw [own_nat n T O hb17] at hcnt
      go_wp2_with fail
      refine hcnt.mono ?_
      rintro _ w3 ⟨rfl, hg3⟩
      have HF := Lib.hid ((h.grows hg2).grows hg3)
      have HC := Lib.hid (Chg.of_grows (S := [rp, rq]) (hg2.trans hg3))
      have cq := HF.out.quo hb17
      generalize ownC n T O b' = ov at *
      generalize quo b' = qv at *
      generalize (n : Int) - (heldC n T : Nat) = fr at *
      clear h hwr hg2 hg3 hcnt c0 c1 ct
      go_wp2_with fail
      go_ret
      exact ⟨by trivial, HF.out, HC.out⟩
    · have hnf : ¬ (j : Int) < first := by omega
      go_enter Try.func28, Try.ntmps28
      go_wp2_with fail
      refine (hio).mono ?_
      rintro _ _ ⟨rfl, hw⟩
      rw [hw]
      clear hw
      go_wp2_with fail
      refine hwr.mono ?_
      rintro _ w2 ⟨rfl, hg2⟩
      obtain ⟨c0, c1⟩ := (h.grows hg2).cells
      have ct := (h.grows hg2).tm hj
      rw [h1] at ct
      have hcnt := RCount_any (h.grows hg2) (b' : Int)
      rw [own_nat n T O hb17] at hcnt
      go_wp2_with fail
      refine hcnt.mono ?_
      rintro _ w3 ⟨rfl, hg3⟩
      have hW3 := (h.grows hg2).grows hg3
      have HF := Lib.hid (hW3.setO hj hb17)
      have HC := Lib.hid ((Chg.of_grows (S := [rp, rq]) (hg2.trans hg3)).setCell (b := rq) (Or.inl (by simp)) (j * 2) (.int .i64 (b' : Nat)))
      obtain ⟨c0, c1⟩ := hW3.cells
      have co := hW3.ow hj hT
      have fo := (hW3.frozen (j * 2)).2
      have cq := hW3.quo hb17
      clear h hwr hg2 hg3 hcnt ct hW3
      by_cases hab : O j = b'
      · have hnab : ((O j : Int) != (b' : Int)) = false := by simp; omega
        generalize ownC n T O b' = ov at *
        generalize quo b' = qv at *
        generalize (n : Int) - (heldC n T : Nat) = fr at *
        clear hq hab
        go_wp2_with fail
        go_ret
        exact ⟨by trivial, HF.out, HC.out⟩
      · have hnab : ((O j : Int) != (b' : Int)) = true := by simp; omega
        have hq2 : ¬ quo b' ≤ (ownC n T O b' : Nat) := by rcases hq with hq | hq; exact absurd hq hab; omega
        generalize ownC n T O b' = ov at *
        generalize quo b' = qv at *
        generalize (n : Int) - (heldC n T : Nat) = fr at *
        clear hq hab
        go_wp2_with fail
        go_ret
        exact ⟨by trivial, HF.out, HC.out⟩
theorem RfAt.ow' {w : World} {rp rq n first j : Nat} {T O : Nat → Nat} {quo : Nat → Int} (h : RfAt w rp rq n first T O quo) (hj : j < n) : ∃ r : Nat, w.cell? ⟨rq, j * 2, none⟩ = some (.int .i64 r) := by
  obtain ⟨R, hP, hR⟩ := h.prs
  exact ⟨R j, (hP.cells hj).1⟩
set_option maxHeartbeats 2000000 in
theorem RAlloc_all {w : World} {rp rq n first : Nat} {T O T' O' : Nat → Nat} {quo : Nat → Int} {who kf e : Int} (h : RfAt w rp rq n first T O quo) (hR : AllocR n first T O quo who T' O' kf e) :
    Calls Try.prog 25 #[.pointer (some ⟨rp, 0, none⟩), .int .i64 who] w fun r w' => r = .returned (.tuple #[.int .i64 kf, .int .i64 e]) ∧ RfAt w' rp rq n first T' O' quo ∧ Chg [rp, rq] w w' := by
  have hio := rowner_is who w
  have hcnt := RCount_any h who
  have hn2 := h.n2
  rcases hR with ⟨hno, rfl, rfl, hTT, hOO⟩ | ⟨o, rfl, ho17, hR⟩
  · obtain rfl := hTT.symm
    obtain rfl := hOO.symm
    rw [decide_eq_false hno] at hio
    have HF := Lib.hid h
    clear hno h hcnt
    go_enter Try.func25, Try.ntmps25
    go_wp2_with fail
    refine (hio).mono ?_
    rintro _ _ ⟨rfl, hw⟩
    rw [hw]
    clear hw
    go_wp2_with fail
    go_ret2
    exact ⟨by trivial, HF.out, Chg.refl _ _⟩
  · rw [decide_eq_true (show isOwn (o : Int) from ⟨by omega, by omega⟩)] at hio
    rw [own_nat n T O ho17] at hcnt
    rcases hR with ⟨hq, rfl, rfl, hTT, hOO⟩ | ⟨hq, hall, rfl, rfl, hTT, hOO⟩ | ⟨hq, j, rfl, hj, hf, hall, hT0, rfl, rfl, rfl⟩
    · obtain rfl := hTT.symm
      obtain rfl := hOO.symm
      go_enter Try.func25, Try.ntmps25
      go_wp2_with fail
      refine (hio).mono ?_
      rintro _ _ ⟨rfl, hw⟩
      rw [hw]
      clear hw
      go_wp2_with fail
      refine hcnt.mono ?_
      rintro _ w3 ⟨rfl, hg3⟩
      have HF := Lib.hid (h.grows hg3)
      have HC := Lib.hid (Chg.of_grows (S := [rp, rq]) hg3)
      have cq := HF.out.quo ho17
      generalize ownC n T O o = ov at *
      generalize quo o = qv at *
      generalize (n : Int) - (heldC n T : Nat) = fr at *
      clear h hg3 hcnt
      go_wp2_with fail
      go_ret2
      exact ⟨by trivial, HF.out, HC.out⟩
    · obtain rfl := hTT.symm
      obtain rfl := hOO.symm
      go_enter Try.func25, Try.ntmps25
      go_wp2_with fail
      refine (hio).mono ?_
      rintro _ _ ⟨rfl, hw⟩
      rw [hw]
      clear hw
      go_wp2_with fail
      refine hcnt.mono ?_
      rintro _ w3 ⟨rfl, hg3⟩
      have HF3 := Lib.hid (h.grows hg3)
      have HC3 := Lib.hid (Chg.of_grows (S := [rp, rq]) hg3)
      have cq := HF3.out.quo ho17
      have hq2 : ¬ quo o ≤ (ownC n T O o : Nat) := by omega
      generalize ownC n T O o = ov at *
      generalize quo o = qv at *
      generalize (n : Int) - (heldC n T : Nat) = fr at *
      obtain ⟨c0, c1⟩ := HF3.out.cells
      clear h hg3 hcnt
      go_wp2_with fail
      clear cq hq hq2
      have HF := Lib.hid HF3.out
      have HC := Lib.hid HC3.out
      go_loopw [8] (fun c wr => ∃ k : Nat, k ≤ n ∧ c = .int .i64 k ∧ wr = w3) (fun c _ => (n - intOf c).toNat)
      case atStart => exact ⟨0, by omega, rfl, rfl⟩
      case round =>
        obtain ⟨k, hk, rfl, rfl⟩ := hrel
        by_cases hlt : k < n
        · have ct := HF3.out.tm hlt
          have hT := hall k hlt
          have hb0 : ((T k : Int) == 0) = false := by simp; omega
          generalize T k = tk at *
          go_wp2_with fail
          exact ⟨⟨k + 1, by omega, by simp, by trivial⟩, by simp [intOf]; omega⟩
        · have : n = k := by omega
          subst this
          go_wp2_with fail
          go_ret2
          exact ⟨by trivial, HF.out, HC.out⟩
    · go_enter Try.func25, Try.ntmps25
      go_wp2_with fail
      refine (hio).mono ?_
      rintro _ _ ⟨rfl, hw⟩
      rw [hw]
      clear hw
      go_wp2_with fail
      refine hcnt.mono ?_
      rintro _ w3 ⟨rfl, hg3⟩
      have HF3 := Lib.hid (h.grows hg3)
      have HC3 := Lib.hid (Chg.of_grows (S := [rp, rq]) hg3)
      have cq := HF3.out.quo ho17
      have hq2 : ¬ quo o ≤ (ownC n T O o : Nat) := by omega
      generalize ownC n T O o = ov at *
      generalize quo o = qv at *
      generalize (n : Int) - (heldC n T : Nat) = fr at *
      obtain ⟨c0, c1⟩ := HF3.out.cells
      clear h hg3 hcnt
      go_wp2_with fail
      clear cq hq hq2
      have HF := Lib.hid (HF3.out.give hj ho17)
      have HC := Lib.hid ((HC3.out.setCell (b := rq) (Or.inl (by simp)) (j * 2) (.int .i64 (o : Nat))).setCell (b := rq) (Or.inl (by simp)) (j * 2 + 1) (.int .i64 (1 : Nat)))
      rw [show (((1 : Nat)) : Int) = (1 : Int) from rfl] at HF HC
      go_loopw [8] (fun c wr => ∃ k : Nat, k ≤ j ∧ c = .int .i64 k ∧ wr = w3) (fun c _ => (n - intOf c).toNat)
      case atStart => exact ⟨0, by omega, rfl, rfl⟩
      case round =>
        obtain ⟨k, hk, rfl, rfl⟩ := hrel
        have hlt : k < n := by omega
        have ct := HF3.out.tm hlt
        by_cases hkj : k < j
        · have hT := hall k hkj
          have hb0 : ((T k : Int) == 0) = false := by simp; omega
          generalize T k = tk at *
          clear HF
          go_wp2_with fail
          exact ⟨⟨k + 1, by omega, by simp, by trivial⟩, by simp [intOf]; omega⟩
        · obtain rfl : k = j := by omega
          rw [hT0] at ct
          obtain ⟨r0, co⟩ := HF3.out.ow' hlt
          have fa := (HF3.out.frozen (k * 2)).2
          have fb := (HF3.out.frozen (k * 2 + 1)).2
          clear hall hT0
          go_wp2_with fail
          go_ret2
          exact ⟨by trivial, HF.out, HC.out⟩
end Go.Proofs.Ytbiadhgkpggdeaa
