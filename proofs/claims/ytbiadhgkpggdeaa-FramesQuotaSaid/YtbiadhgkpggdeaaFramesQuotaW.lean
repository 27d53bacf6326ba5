/- The walk of FramesQuota. -/
import Derived.Test.YtbiadhgkpggdeaaFrO
import Derived.Test.YtbiadhgkpggdeaaSlice2
import Derived.Deep.DeepCutAuto
import Derived.Deep.CutBlock
namespace Go.Proofs.Ytbiadhgkpggdeaa
open Go Go.RowKit
set_option linter.unusedSimpArgs false
set_option linter.unusedVariables false
section
variable {H : Type} {enc : TypeId × Value → H}
abbrev actT : List TypeId := [3, 3, 3, 3]
theorem act_at {W : World} {A : Option Addr} {n : Nat} {X : Nat → List Value} (hX : SliceIs2 enc Try.prog W actT A n X) {i : Nat} (hi : i < n) :
    ∃ b o, A = some ⟨b, o, none⟩ ∧ b < W.heap.size ∧ ∃ (K F Ow To : Int),
      W.cell? ⟨b, o + i * 4, none⟩ = some (.int .i64 K) ∧ W.cell? ⟨b, o + i * 4 + 1, none⟩ = some (.int .i64 F) ∧ W.cell? ⟨b, o + i * 4 + 2, none⟩ = some (.int .i64 Ow) ∧ W.cell? ⟨b, o + i * 4 + 3, none⟩ = some (.int .i64 To) := by
  obtain ⟨b, o, hA, hb, hL, hc⟩ := hX i hi
  obtain ⟨c0, cs0, e0, l0, hL⟩ := hL.cons
  obtain ⟨c1, cs1, rfl, l1, hL⟩ := hL.cons
  obtain ⟨c2, cs2, rfl, l2, hL⟩ := hL.cons
  obtain ⟨c3, cs3, rfl, l3, hL⟩ := hL.cons
  obtain ⟨K, rfl, _⟩ := l0.int Try.underlying3
  obtain ⟨F, rfl, _⟩ := l1.int Try.underlying3
  obtain ⟨Ow, rfl, _⟩ := l2.int Try.underlying3
  obtain ⟨To, rfl, _⟩ := l3.int Try.underlying3
  rw [e0] at hc
  exact ⟨b, o, hA, hb, K, F, Ow, To, hc 0 (by decide), by have := hc 1 (by decide); rwa [← Nat.add_assoc] at this, by have := hc 2 (by decide); rwa [← Nat.add_assoc] at this, by have := hc 3 (by decide); rwa [← Nat.add_assoc] at this⟩
theorem own_two (n : Nat) (T O : Nat → Nat) : ownI n T O 2 = ownC n T O 2 := by unfold ownI; rw [if_pos (show isOwn 2 from ⟨by omega, by omega⟩)]; rfl
set_option maxRecDepth 100000 in
set_option maxHeartbeats 4000000 in
theorem framesQuota_walk (W : World) (K0 : Int) (_ : (Lit.int .i64 K0).wf = true) (A : Option Addr) (m c : Nat) (X : Nat → List Value) (hmc : m ≤ c) (hsz : c * 32 < 140737488355328) (hX : SliceIs2 enc Try.prog W actT A m X) (hA : A = none → c = 0) :
    Calls Try.prog 3 #[.int .i64 K0, .slice A m c] W fun r w' => r = .returned (.bool true) ∧ Grows W w' := by
  have hm : m ≤ 140737488355328 := by omega
  obtain ⟨q, hq, hq7⟩ : ∃ q : Nat, bits .and .i64 K0 7 = q ∧ q ≤ 7 := by
    have e : bits .and .i64 K0 7 = K0 % 8 := and_mask_i64 (n := 3) (by omega)
    rw [e]
    exact ⟨(K0 % 8).toNat, by omega, by omega⟩
  clear hsz
  go_enter Try.func3, Try.ntmps3
  go_wp2_with fail
  refine (fnew_ok W (n := 12) (first := 1) (by omega) (by omega) (by omega)).mono ?_
  rintro _ w1 ⟨p, bt, bw, rfl, hF1, hg1, hp, hbt, hbw⟩
  have hq1 := Quota_ok hF1 (o := 2) (by omega) (q := (q : Int)) (by omega)
  have HG1 := Lib.hid hg1
  have HB : Hid (W.heap.size ≤ p ∧ W.heap.size ≤ bt ∧ W.heap.size ≤ bw) := Lib.hid ⟨hp, hbt, hbw⟩
  have hown0 : ownC 12 (fstT 1) (fun _ => 0) 2 = 0 := by rw [ownC_fst 12 1 (by omega)]; rfl
  clear hF1 hg1 hp hbt hbw
  go_wp2_with fail
  refine hq1.mono ?_
  rintro _ w2 ⟨rfl, hF2, hc2⟩
  have HG2 : Hid (Grows W w2) := hc2.to_grows HG1.out (by have := HB.out; simp; omega)
  obtain ⟨Q, hQ, hQ2⟩ : ∃ Q : Nat → Int, Q = (fun j => if j = 2 then (q : Int) else ((12 : Nat) : Int)) ∧ Q 2 = q := ⟨_, rfl, rfl⟩
  rw [← hQ] at hF2
  have HF2 := Lib.hid hF2
  have HQ2 := Lib.hid hQ2
  have HO0 : Hid (ownC 12 (fstT 1) (fun _ => 0) 2 ≤ q) := Lib.hid (by omega)
  clear hq1 hF2 hc2 hQ hQ2 hown0
  go_wp2_with fail
  go_loopw [7] (fun i wr => ∃ (k low : Nat) (T O : Nat → Nat), k ≤ m ∧ i = .int .i64 k ∧ FrAt wr p bt bw 12 1 T O Q low ∧ ownC 12 T O 2 ≤ q ∧ Grows W wr) (fun i _ => (m - intOf i).toNat)
  case atStart => exact ⟨0, _, _, _, by omega, rfl, HF2.out, HO0.out, HG2.out⟩
  case round =>
    clear HF2 HG2 HO0 HG1
    obtain ⟨k, low, T, O, hk, rfl, hF, ho, hG⟩ := hrel
    by_cases hlt : k < m
    · obtain ⟨b, o, rfl, hb, K, F, Ow, To, d0, d1, d2, d3⟩ := act_at hX hlt
      have c0 := (hG.cell hb).trans d0
      have c1 := (hG.cell hb).trans d1
      have c2 := (hG.cell hb).trans d2
      have c3 := (hG.cell hb).trans d3
      have HF := Lib.hid hF
      have HG := Lib.hid hG
      have HO := Lib.hid ho
      clear hX d0 d1 d2 d3 hF hG ho
      go_wp2_with fail
      obtain ⟨w5, hw5⟩ : ∃ w5, w5 = wr.alloc (.cells #[.int .i64 K, .int .i64 F, .int .i64 Ow, .int .i64 To] 29) := ⟨_, rfl⟩
      obtain ⟨ba, hba⟩ : ∃ ba, ba = wr.heap.size := ⟨_, rfl⟩
      have hr5 : Row w5 ba #[.int .i64 K, .int .i64 F, .int .i64 Ow, .int .i64 To] 29 := by rw [hw5, hba]; exact Row.new _ _ _
      have hg5 : Grows wr w5 := by rw [hw5]; exact (Grows.refl _).alloc _
      rw [← hw5, ← hba]
      refine (Count_any (HF.out.grows hg5) 2).mono ?_
      rintro _ w6 ⟨rfl, hg6⟩
      rw [own_two]
      have HR := Lib.hid (hr5.grows hg6)
      have HF6 := Lib.hid (HF.out.grows (hg5.trans hg6))
      have HG6 := Lib.hid (HG.out.trans (hg5.trans hg6))
      clear hw5 hba hr5 hg5 hg6 HF HG c0 c1 c2 c3
      obtain ⟨ov, hov⟩ : ∃ ov, ov = ownC 12 T O 2 := ⟨_, rfl⟩
      rw [← hov]
      have HOV := Lib.hid hov
      clear hov
      generalize ((12 : Nat) : Int) - (heldC 12 T : Nat) = fr at *
      have x0 : w6.cell? ⟨ba, 0, none⟩ = some (.int .i64 K) := HR.out.cell 0
      have x1 : w6.cell? ⟨ba, 1, none⟩ = some (.int .i64 F) := HR.out.cell 1
      have hfree := Free_all HF6.out F 2
      have hmove := Move_all HF6.out F 1 2
      have hal1 := Alloc_all HF6.out 1
      have hal2 := Alloc_all HF6.out 2
      clear HR
      go_upto_block 2 with fail
      go_cut [11, 12, 13] (fun s11 s12 s13 wx => ∃ T O low Wc, Wc = wx ∧ FrAt wx p bt bw 12 1 T O Q low ∧ ownC 12 T O 2 ≤ q ∧ Grows W wx)
      case first =>
        by_cases k0 : K = 0
        · subst k0
          clear hfree hmove hal1
          go_wp2_with fail
          refine hal2.mono ?_
          rintro _ w7 ⟨kk, e, T', O', low', rfl, hF7, hc7, hR7⟩
          have HG7 : Hid (Grows W w7) := hc7.to_grows HG6.out (by have := HB.out; simp; omega)
          have HF7 := Lib.hid hF7
          have hQ := HQ2.out
          have hv := HOV.out
          rcases hR7 with ⟨hno, _⟩ | ⟨o2, ho2, _, hR7⟩
          · exact absurd (show isOwn 2 from ⟨by omega, by omega⟩) hno
          obtain rfl : o2 = 2 := by omega
          rcases hR7 with ⟨h1, rfl, rfl, rfl, rfl⟩ | ⟨h1, _, rfl, rfl, rfl, rfl⟩ | ⟨h1, j, rfl, hj, _, _, hT0, rfl, rfl, rfl⟩
          · have dge : (q : Int) ≤ ov := by omega
            clear hal2 hF7 hc7 hQ hv h1
            go_wp2_with fail
            go_meet
            exact ⟨_, _, _, _, rfl, HF7.out, HO.out, HG7.out⟩
          · have dge : ¬ (q : Int) ≤ ov := by omega
            clear hal2 hF7 hc7 hQ hv h1
            go_wp2_with fail
            go_meet
            exact ⟨_, _, _, _, rfl, HF7.out, HO.out, HG7.out⟩
          · have dge : ¬ (q : Int) ≤ ov := by omega
            have HO7 : Hid (ownC 12 (upF T j 1) (upF O j 2) 2 ≤ q) := by
              show _ ≤ _
              rw [ownC_new hj hT0 (by omega), upF_same]; omega
            clear hal2 hF7 hc7 hQ hv h1
            go_wp2_with fail
            go_meet
            exact ⟨_, _, _, _, rfl, HF7.out, HO7.out, HG7.out⟩
        by_cases k1 : K = 1
        · subst k1
          clear hfree hmove hal2
          go_wp2_with fail
          refine hal1.mono ?_
          rintro _ w7 ⟨kk, e, T', O', low', rfl, hF7, hc7, hR7⟩
          have HG7 : Hid (Grows W w7) := hc7.to_grows HG6.out (by have := HB.out; simp; omega)
          have HF7 := Lib.hid hF7
          have HO7 : Hid (ownC 12 T' O' 2 ≤ q) := by
            show _ ≤ _
            have := HO.out
            rcases hR7 with ⟨_, _, _, rfl, rfl⟩ | ⟨o2, ho2, _, ⟨_, _, _, rfl, rfl⟩ | ⟨_, _, _, _, rfl, rfl⟩ | ⟨h1, j, _, hj, _, _, hT0, _, rfl, rfl⟩⟩
            · exact this
            · exact this
            · exact this
            · rw [ownC_new hj hT0 (by omega), upF_ne _ _ (by omega)]; exact this
          clear hal1 hF7 hc7 hR7
          go_wp2_with fail
          go_meet
          exact ⟨_, _, _, _, rfl, HF7.out, HO7.out, HG7.out⟩
        by_cases k2 : K = 2
        · subst k2
          clear hal1 hmove hal2
          go_wp2_with fail
          refine hfree.mono ?_
          rintro _ w7 ⟨fl, e, T', low', rfl, hF7, hc7, hR7⟩
          have HG7 : Hid (Grows W w7) := hc7.to_grows HG6.out (by have := HB.out; simp; omega)
          have HF7 := Lib.hid hF7
          have HO7 : Hid (ownC 12 T' O 2 ≤ q) := by
            show _ ≤ _
            have := HO.out
            rcases hR7 with ⟨_, _, _, rfl⟩ | ⟨j, _, hj, hT, hO, ⟨_, _, _, rfl⟩ | ⟨_, _, _, rfl⟩⟩
            · exact this
            · exact this
            · by_cases h1 : T j = 1
              · rw [h1, ownC_del (o := 2) hj hT (by omega), upF_same]; omega
              · rw [ownC_same hT (by omega)]; exact this
          clear hfree hF7 hc7 hR7
          go_wp2_with fail
          go_meet
          exact ⟨_, _, _, _, rfl, HF7.out, HO7.out, HG7.out⟩
        by_cases k3 : K = 3
        · subst k3
          clear hal1 hfree hal2
          go_wp2_with fail
          refine hmove.mono ?_
          rintro _ w7 ⟨e, O', rfl, hF7, hc7, hR7⟩
          have HG7 : Hid (Grows W w7) := hc7.to_grows HG6.out (by have := HB.out; simp; omega)
          have HF7 := Lib.hid hF7
          have hQ := HQ2.out
          have hv := HOV.out
          have hoq := HO.out
          by_cases he : e = 0
          · subst he
            have hfin : (ov < q) ∧ ownC 12 T O' 2 ≤ q := by
              rcases hR7 with ⟨h0, h1, _⟩ | ⟨j, b', _, hb', _, hj, hT, hO, ⟨_, h1, _⟩ | ⟨_, _, _, _, h1, _⟩ | ⟨_, hT1, hqq, _, rfl⟩⟩
              · exact absurd h1.symm h0
              · cases h1
              · cases h1
              · obtain rfl : b' = 2 := by omega
                have hlt2 : (ownC 12 T O 2 : Int) < Q 2 := by rcases hqq with hqq | hqq <;> omega
                refine ⟨by omega, ?_⟩
                rw [ownC_move (a := 1) (b := 2) hj hT (by omega), upF_same, upF_ne _ _ (by omega)]
                omega
            have HO7 := Lib.hid hfin.2
            have dge : ¬ (q : Int) ≤ ov := by omega
            clear hmove hF7 hc7 hR7 hQ hv hoq hfin
            go_wp2_with fail
            go_meet
            exact ⟨_, _, _, _, rfl, HF7.out, HO7.out, HG7.out⟩
          · have HO7 : Hid (ownC 12 T O' 2 ≤ q) := by
              show _ ≤ _
              rcases hR7 with ⟨_, _, rfl⟩ | ⟨j, b', _, hb', _, hj, hT, hO, ⟨_, _, rfl⟩ | ⟨_, _, _, _, _, rfl⟩ | ⟨_, _, _, h1, _⟩⟩
              · exact hoq
              · exact hoq
              · exact hoq
              · exact absurd h1 he
            have de : (e == 0) = false := by simp; exact he
            by_cases hge : (q : Int) ≤ ov
            · clear hmove hF7 hc7 hR7 hQ hv hoq
              go_wp2_with fail
              go_meet
              exact ⟨_, _, _, _, rfl, HF7.out, HO7.out, HG7.out⟩
            · clear hmove hF7 hc7 hR7 hQ hv hoq
              go_wp2_with fail
              go_meet
              exact ⟨_, _, _, _, rfl, HF7.out, HO7.out, HG7.out⟩
        · have q0 : (K == 0) = false := by simp; exact k0
          have q1 : (K == 1) = false := by simp; exact k1
          have q2 : (K == 2) = false := by simp; exact k2
          have q3 : (K == 3) = false := by simp; exact k3
          clear hal1 hfree hal2 hmove k0 k1 k2 k3
          go_wp2_with fail
          go_meet
          exact ⟨_, _, _, _, rfl, HF6.out, HO.out, HG6.out⟩
      case rest =>
        obtain ⟨T7, O7, low7, w7, hw7, hF7, hO7, hG7⟩ := hcut
        rw [← hw7] at hF7 hG7
        have hcnt := Count_any hF7 2
        rw [own_two] at hcnt
        have HF7 := Lib.hid hF7
        have HO7 := Lib.hid hO7
        have HG7 := Lib.hid hG7
        subst hw7
        have hle : ((ownC 12 T7 O7 2 : Nat) : Int) ≤ (q : Int) := by omega
        obtain ⟨ov7, hov7⟩ : ∃ ov7, ov7 = ownC 12 T7 O7 2 := ⟨_, rfl⟩
        rw [← hov7] at hcnt hle
        clear hF7 hO7 hG7 HF6 HG6 HO HOV x0 x1 hfree hmove hal1 hal2 hov7
        go_wp2_with fail
        refine hcnt.mono ?_
        rintro _ w8 ⟨rfl, hg8⟩
        have HF8 := Lib.hid (HF7.out.grows hg8)
        have HG8 := Lib.hid (HG7.out.trans hg8)
        clear hcnt hg8
        go_wp2_with fail
        go_roundw
        case measure => simp [intOf]; omega
        case rel => exact ⟨k + 1, _, _, _, by omega, by simp, HF8.out, HO7.out, HG8.out⟩
    · have : m = k := by omega
      subst this
      have h1 := Count_any hF 2
      have h2 := fun w' (hg : Grows wr w') => Count_any (hF.grows hg) 2
      have h3 := fun w' (hg : Grows wr w') => Quota_ok (hF.grows hg) (o := 2) (by omega) (q := 0) (by omega)
      have HG := Lib.hid hG
      rw [own_two] at h1
      simp only [own_two] at h2
      generalize ownC 12 T O 2 = ov at *
      clear hF hG hX
      go_wp2_with fail
      refine h1.mono ?_
      rintro _ w3 ⟨rfl, hg3⟩
      have h2 := h2 _ hg3
      clear h1
      go_wp2_with fail
      refine h2.mono ?_
      rintro _ w4 ⟨rfl, hg4⟩
      have h3 := h3 _ (hg3.trans hg4)
      have HG4 := Lib.hid (HG.out.trans (hg3.trans hg4))
      clear h2 hg3 hg4
      go_wp2_with fail
      refine h3.mono ?_
      rintro _ w5 ⟨rfl, _, hc5⟩
      have HG5 : Hid (Grows W w5) := hc5.to_grows HG4.out (by have := HB.out; simp; omega)
      clear h3 hc5
      go_wp2_with fail
      go_ret
      exact ⟨by simp, HG5.out⟩
end
end Go.Proofs.Ytbiadhgkpggdeaa
