/- The walk of FramesWhole. -/
import Derived.Test.YtbiadhgkpggdeaaFrP
import Derived.Test.YtbiadhgkpggdeaaFrW
import Derived.Test.YtbiadhgkpggdeaaSlice2
import Derived.Deep.DeepCutAuto
import Derived.Deep.CutBlock
namespace Go.Proofs.Ytbiadhgkpggdeaa
open Go Go.RowKit
set_option linter.unusedSimpArgs false
set_option linter.unusedVariables false
section
variable {H : Type} {enc : TypeId × Value → H}
abbrev actT : List TypeId := [3, 3, 3, 3]
theorem act_at {W : World} {A : Option Addr} {n : Nat} {X : Nat → List Value} (hX : SliceIs2 enc Try.prog W actT A n X) {i : Nat} (hi : i < n) :
    ∃ b o, A = some ⟨b, o, none⟩ ∧ b < W.heap.size ∧ ∃ (K F Ow To : Int), wf64 K ∧ wf64 F ∧ wf64 Ow ∧ wf64 To ∧
      W.cell? ⟨b, o + i * 4, none⟩ = some (.int .i64 K) ∧ W.cell? ⟨b, o + i * 4 + 1, none⟩ = some (.int .i64 F) ∧ W.cell? ⟨b, o + i * 4 + 2, none⟩ = some (.int .i64 Ow) ∧ W.cell? ⟨b, o + i * 4 + 3, none⟩ = some (.int .i64 To) := by
  obtain ⟨b, o, hA, hb, hL, hc⟩ := hX i hi
  obtain ⟨c0, cs0, e0, l0, hL⟩ := hL.cons
  obtain ⟨c1, cs1, rfl, l1, hL⟩ := hL.cons
  obtain ⟨c2, cs2, rfl, l2, hL⟩ := hL.cons
  obtain ⟨c3, cs3, rfl, l3, hL⟩ := hL.cons
  obtain ⟨K, rfl, f0⟩ := l0.int Try.underlying3
  obtain ⟨F, rfl, f1⟩ := l1.int Try.underlying3
  obtain ⟨Ow, rfl, f2⟩ := l2.int Try.underlying3
  obtain ⟨To, rfl, f3⟩ := l3.int Try.underlying3
  rw [e0] at hc
  exact ⟨b, o, hA, hb, K, F, Ow, To, f0, f1, f2, f3, hc 0 (by decide), by have := hc 1 (by decide); rwa [← Nat.add_assoc] at this, by have := hc 2 (by decide); rwa [← Nat.add_assoc] at this, by have := hc 3 (by decide); rwa [← Nat.add_assoc] at this⟩
theorem own_at (n : Nat) (T O : Nat → Nat) {k : Nat} (hk : k < 17) : ownI n T O (k : Int) = ownC n T O k := by unfold ownI; rw [if_pos (show isOwn (k : Int) from ⟨by omega, by omega⟩), Int.toNat_natCast]
theorem lst_of {w : World} {base : Nat} {v : Value} {l : List Nat} {e : TypeId} {L : Nat} (hL : l.length = L) (h : w.ownsRow base e 1 v L (valsOf l)) :
    ∃ A cap, v = .slice A l.length cap ∧ l.length ≤ cap ∧ cap ≤ maxLen ∧ ∀ k, k < l.length → ∃ g, A = some ⟨g, 0, none⟩ ∧ base ≤ g ∧ g < w.heap.size ∧ w.cell? ⟨g, k, none⟩ = some (.int .i64 (l.getD k 0 : Nat)) := by
  subst hL
  obtain ⟨hlen, ⟨rfl, h0⟩ | ⟨g, cap, cur, rfl, hb, hh, hcap, hmax, hsz, htk⟩⟩ := h
  · exact ⟨none, 0, by rw [h0], by omega, by unfold maxLen; omega, fun k hk => by omega⟩
  · have hr : Row w g cur e := hh
    refine ⟨some ⟨g, 0, none⟩, cap, rfl, hcap, hmax, fun k hk => ⟨g, rfl, hb, hr.lt, ?_⟩⟩
    rw [hr.cell]
    have h1 : (cur.toList.take (l.length * 1))[k]? = (valsOf l)[k]? := by rw [htk]
    rw [List.getElem?_take, if_pos (by omega)] at h1
    rw [← Array.getElem?_toList, h1]
    unfold valsOf
    rw [List.getElem?_map, List.getD_eq_getElem?_getD, List.getElem?_eq_getElem hk]
    rfl
theorem sumC_le (n : Nat) (T O : Nat → Nat) (k : Nat) : sumC n T O k ≤ n := by rw [sumC_is]; exact cn_le
/-- What was seen, behind i of the numbers of owner k. -/
def seenF (T O : Nat → Nat) (k : Nat) (l : List Nat) (i : Nat) : Nat → Bool := fun j => decide (0 < T j ∧ O j < k) || decide (j ∈ l.take i)
theorem seenF_zero (T O : Nat → Nat) (k : Nat) (l : List Nat) : seenF T O k l 0 = fun j => decide (0 < T j ∧ O j < k) := by
  funext j; simp [seenF]
theorem seenF_all {T O : Nat → Nat} {k n : Nat} : ∀ i, i < n → seenF T O k (listC T O k n) (listC T O k n).length i = decide (0 < T i ∧ O i < k + 1) := by
  intro i hi
  unfold seenF
  rw [List.take_length]
  simp only [listC_mem]
  by_cases h : 0 < T i
  · by_cases h1 : O i < k
    · simp [h, h1, show O i < k + 1 by omega]
    · by_cases h2 : O i = k
      · simp [h, h2, hi]
      · simp [h, h1, h2, show ¬ O i < k + 1 by omega]
  · simp [h]
theorem seenF_no {T O : Nat → Nat} {k n i : Nat} (hi : i < (listC T O k n).length) : seenF T O k (listC T O k n) i ((listC T O k n).getD i 0) = false := by
  have hm := listC_getD_mem hi
  have hin := List.mem_of_getElem? hm
  rw [listC_mem] at hin
  unfold seenF
  rw [Bool.or_eq_false_iff]
  refine ⟨decide_eq_false (fun h => by omega), ?_⟩
  rw [decide_eq_false_iff_not, List.mem_iff_getElem?]
  rintro ⟨a, ha⟩
  rw [List.getElem?_take] at ha
  by_cases hai : a < i
  · rw [if_pos hai, ← hm] at ha
    have := List.pairwise_iff_getElem.1 (listC_nodup T O k n) a i (by omega) hi hai
    rw [List.getElem?_eq_getElem (by omega), List.getElem?_eq_getElem hi] at ha
    exact this (Option.some.inj ha)
  · rw [if_neg hai] at ha; cases ha
theorem seenF_next {T O : Nat → Nat} {k i : Nat} {l : List Nat} (hi : i < l.length) : (fun j => if j = l.getD i 0 then true else seenF T O k l i j) = seenF T O k l (i + 1) := by
  funext j
  unfold seenF
  have e : l.take (i + 1) = l.take i ++ [l.getD i 0] := by
    rw [List.take_add_one, List.getD_eq_getElem?_getD, List.getElem?_eq_getElem hi]; rfl
  rw [e]
  simp only [List.mem_append, List.mem_singleton]
  by_cases h : j = l.getD i 0
  · rw [if_pos h]; simp [h]
  · rw [if_neg h]; simp only [h, or_false]
set_option maxRecDepth 100000 in
set_option maxHeartbeats 8000000 in
theorem framesWhole_walk (W : World) (K0 : Int) (_ : (Lit.int .i64 K0).wf = true) (K1 : Int) (_ : (Lit.int .i64 K1).wf = true) (A : Option Addr) (m c : Nat) (X : Nat → List Value) (hmc : m ≤ c) (hsz : c * 32 < 140737488355328) (hX : SliceIs2 enc Try.prog W actT A m X) (hA : A = none → c = 0) :
    Calls Try.prog 5 #[.int .i64 K0, .int .i64 K1, .slice A m c] W fun r w' => r = .returned (.bool true) ∧ Grows W w' := by
  have hm : m ≤ 140737488355328 := by omega
  obtain ⟨q0, hq0, hq063⟩ : ∃ q : Nat, bits .and .i64 K0 63 = q ∧ q ≤ 63 := by
    have e : bits .and .i64 K0 63 = K0 % 64 := and_mask_i64 (n := 6) (by omega)
    rw [e]
    exact ⟨(K0 % 64).toNat, by omega, by omega⟩
  obtain ⟨q1, hq1, hq163⟩ : ∃ q : Nat, bits .and .i64 K1 63 = q ∧ q ≤ 63 := by
    have e : bits .and .i64 K1 63 = K1 % 64 := and_mask_i64 (n := 6) (by omega)
    rw [e]
    exact ⟨(K1 % 64).toNat, by omega, by omega⟩
  clear hsz
  go_enter Try.func5, Try.ntmps5
  go_wp2_with fail
  obtain ⟨n, hn⟩ : ∃ n : Nat, n = 1 + q0 := ⟨_, rfl⟩
  obtain ⟨first, hfi⟩ : ∃ f : Nat, f = q1 % (n + 1) := ⟨_, rfl⟩
  have hfn : first ≤ n := by rw [hfi]; exact Nat.le_of_lt_succ (Nat.mod_lt _ (by omega))
  rw [show ((1 : Int) + (q0 : Int)) = (n : Int) by omega, show ((q1 : Int) % ((n : Int) + 1)) = (first : Int) by rw [hfi]; push_cast; rfl]
  have hn64 : n ≤ 64 := by omega
  have hn1 : 1 ≤ n := by omega
  clear hfi
  refine (fnew_ok W (n := n) (first := first) (by omega) (by omega) (by omega)).mono ?_
  rintro _ w1 ⟨p, bt, bw, rfl, hF1, hg1, hp, hbt, hbw⟩
  have HF1 := Lib.hid hF1
  have HG1 := Lib.hid hg1
  have HB : Hid (W.heap.size ≤ p ∧ W.heap.size ≤ bt ∧ W.heap.size ≤ bw) := Lib.hid ⟨hp, hbt, hbw⟩
  clear hn hF1 hg1 hp hbt hbw hq0 hq1
  go_wp2_with fail
  go_loopw [9] (fun i wr => ∃ (k low : Nat) (T O : Nat → Nat) (Q : Nat → Int), k ≤ m ∧ i = .int .i64 k ∧ FrAt wr p bt bw n first T O Q low ∧ Grows W wr) (fun i _ => (m - intOf i).toNat)
  case atStart => exact ⟨0, _, _, _, _, by omega, rfl, HF1.out, HG1.out⟩
  case round =>
    clear HF1 HG1
    obtain ⟨kk, low, T, O, Q, hk, rfl, hF, hG⟩ := hrel
    by_cases hlt : kk < m
    · obtain ⟨b, o, rfl, hb, K, F, Ow, To, f0, f1, f2, f3, d0, d1, d2, d3⟩ := act_at hX hlt
      have c0 := (hG.cell hb).trans d0
      have c1 := (hG.cell hb).trans d1
      have c2 := (hG.cell hb).trans d2
      have c3 := (hG.cell hb).trans d3
      have HF := Lib.hid hF
      have HG := Lib.hid hG
      clear hX d0 d1 d2 d3 hF hG f0 f1 f2 f3
      go_upto_block 2 with fail
      obtain ⟨w6, hw5⟩ : ∃ w5, w5 = wr.alloc (.cells #[.int .i64 K, .int .i64 F, .int .i64 Ow, .int .i64 To] 29) := ⟨_, rfl⟩
      obtain ⟨ba, hba⟩ : ∃ ba, ba = wr.heap.size := ⟨_, rfl⟩
      have hr5 : Row w6 ba #[.int .i64 K, .int .i64 F, .int .i64 Ow, .int .i64 To] 29 := by rw [hw5, hba]; exact Row.new _ _ _
      have hg5 : Grows wr w6 := by rw [hw5]; exact (Grows.refl _).alloc _
      rw [← hw5, ← hba]
      have HF6 := Lib.hid (HF.out.grows hg5)
      have HG6 := Lib.hid (HG.out.trans hg5)
      have x0 : w6.cell? ⟨ba, 0, none⟩ = some (.int .i64 K) := hr5.cell 0
      have x1 : w6.cell? ⟨ba, 1, none⟩ = some (.int .i64 F) := hr5.cell 1
      have x2 : w6.cell? ⟨ba, 2, none⟩ = some (.int .i64 Ow) := hr5.cell 2
      have x3 : w6.cell? ⟨ba, 3, none⟩ = some (.int .i64 To) := hr5.cell 3
      have HR5 := Lib.hid hr5
      have hbab : Hid (ba ∉ [p, bt, bw]) := by
        have h1 := HF.out.row.lt
        have h2 := HF.out.tm.lt
        obtain ⟨_, _, _, h3, _⟩ := HF.out.wh
        have h3 := h3.lt
        show _ ∉ _
        simp; omega
      clear hw5 hba hr5 hg5 HF HG c0 c1 c2 c3
      have hal := Alloc_all HF6.out Ow
      have hhold := Hold_all HF6.out F Ow
      have hfree := Free_all HF6.out F Ow
      have hmove := Move_all HF6.out F Ow To
      have hquota := Quota_all HF6.out Ow To
      go_cut [11, 12, 13, 14, 15] (fun s11 s12 s13 s14 s15 wx => ∃ T O Q low Wc, Wc = wx ∧ FrAt wx p bt bw n first T O Q low ∧ Grows W wx)
      case first =>
        by_cases k0 : K = 0
        · subst k0
          clear hhold hfree hmove hquota
          go_wp2_with fail
          refine hal.mono ?_
          rintro _ w7 ⟨kf, e, T', O', low', rfl, hF7, hc7, hR7⟩
          have HG7 : Hid (Grows W w7) := hc7.to_grows HG6.out (by have := HB.out; simp; omega)
          have HF7 := Lib.hid hF7
          have y2 : w7.cell? ⟨ba, 2, none⟩ = some (.int .i64 Ow) := (HR5.out.chg hc7 hbab.out).cell 2
          have HC7 := Lib.hid hc7
          clear hal hF7 hc7 x0 x1 x2 x3
          rcases hR7 with ⟨hno, rfl, rfl, rfl, rfl⟩ | ⟨ow, rfl, ho17, ⟨h1, rfl, rfl, rfl, rfl⟩ | ⟨h1, h2, rfl, rfl, rfl, rfl⟩ | ⟨h1, j, rfl, hj, hfj, _, hT0, rfl, rfl, rfl⟩⟩
          · clear hno
            go_wp2_with fail
            go_meet
            exact ⟨_, _, _, _, _, rfl, HF7.out, HG7.out⟩
          · clear h1
            go_wp2_with fail
            go_meet
            exact ⟨_, _, _, _, _, rfl, HF7.out, HG7.out⟩
          · clear h1 h2
            go_wp2_with fail
            go_meet
            exact ⟨_, _, _, _, _, rfl, HF7.out, HG7.out⟩
          · have hown := Owner_some HF7.out hj (by rw [upF_same]; omega)
            rw [upF_same, upF_same] at hown
            have HFx := HF7
            have HGx := HG7
            clear h1 hT0 HF7 HG7
            go_wp2_with fail
            refine hown.mono ?_
            rintro _ w8 ⟨rfl, hg8⟩
            have HF7 := Lib.hid (HFx.out.grows hg8)
            have HG7 := Lib.hid (HGx.out.trans hg8)
            have y3 : w8.cell? ⟨ba, 2, none⟩ = some (.int .i64 (ow : Int)) := ((HR5.out.chg HC7.out hbab.out).grows hg8).cell 2
            clear hown y2 hg8 HFx HGx
            go_wp2_with fail
            go_meet
            exact ⟨_, _, _, _, _, rfl, HF7.out, HG7.out⟩
        by_cases k1 : K = 1
        · subst k1
          clear hal hfree hmove hquota
          go_wp2_with fail
          refine hhold.mono ?_
          rintro _ w7 ⟨e, T', rfl, hF7, hc7, hR7⟩
          have HG7 : Hid (Grows W w7) := hc7.to_grows HG6.out (by have := HB.out; simp; omega)
          have HF7 := Lib.hid hF7
          clear hhold hF7 hc7 hR7
          go_wp2_with fail
          go_meet
          exact ⟨_, _, _, _, _, rfl, HF7.out, HG7.out⟩
        by_cases k2 : K = 2
        · subst k2
          clear hal hhold hmove hquota
          go_wp2_with fail
          refine hfree.mono ?_
          rintro _ w7 ⟨fl, e, T', low', rfl, hF7, hc7, hR7⟩
          have HG7 : Hid (Grows W w7) := hc7.to_grows HG6.out (by have := HB.out; simp; omega)
          have HF7 := Lib.hid hF7
          clear hfree hF7 hc7 hR7
          go_wp2_with fail
          go_meet
          exact ⟨_, _, _, _, _, rfl, HF7.out, HG7.out⟩
        by_cases k3 : K = 3
        · subst k3
          clear hal hhold hfree hquota
          go_wp2_with fail
          refine hmove.mono ?_
          rintro _ w7 ⟨e, O', rfl, hF7, hc7, hR7⟩
          have HG7 : Hid (Grows W w7) := hc7.to_grows HG6.out (by have := HB.out; simp; omega)
          have HF7 := Lib.hid hF7
          clear hmove hF7 hc7 hR7
          go_wp2_with fail
          go_meet
          exact ⟨_, _, _, _, _, rfl, HF7.out, HG7.out⟩
        by_cases k4 : K = 4
        · subst k4
          clear hal hhold hfree hmove
          go_wp2_with fail
          refine hquota.mono ?_
          rintro _ w7 ⟨e, quo', rfl, hF7, hc7, hR7⟩
          have HG7 : Hid (Grows W w7) := hc7.to_grows HG6.out (by have := HB.out; simp; omega)
          have HF7 := Lib.hid hF7
          clear hquota hF7 hc7 hR7
          go_wp2_with fail
          go_meet
          exact ⟨_, _, _, _, _, rfl, HF7.out, HG7.out⟩
        · have q0 : (K == 0) = false := by simp; exact k0
          have q1 : (K == 1) = false := by simp; exact k1
          have q2 : (K == 2) = false := by simp; exact k2
          have q3 : (K == 3) = false := by simp; exact k3
          have q4 : (K == 4) = false := by simp; exact k4
          clear hal hfree hhold hmove hquota k0 k1 k2 k3 k4
          go_wp2_with fail
          go_meet
          exact ⟨_, _, _, _, _, rfl, HF6.out, HG6.out⟩
      case rest =>
        as_aux_lemma =>
          obtain ⟨T7, O7, Q7, low7, w7, hw7, hF7, hG7⟩ := hcut
          rw [← hw7] at hF7 hG7
          have hlt1 := hF7.row.lt
          have hlt2 := hF7.tm.lt
          obtain ⟨_, _, _, hlt3, _⟩ := hF7.wh
          have hlt3 := hlt3.lt
          have hall := sumC_all hF7.ob
          have hmk := run_make_bool n (by omega) w7
          obtain ⟨w8, hw8⟩ : ∃ w8, w8 = w7.alloc (.cells (madeCells #[.bool false] n) 4) := ⟨_, rfl⟩
          obtain ⟨q, hq⟩ : ∃ q, q = w7.heap.size := ⟨_, rfl⟩
          have hB8 : Bls w8 q n (fun _ => false) := by rw [hw8, hq]; exact Bls.made _ _ _
          have hg8 : Grows w7 w8 := by rw [hw8]; exact (Grows.refl _).alloc _
          rw [← hw8, ← hq] at hmk
          have HB8 : Hid (Bls w8 q n (fun j => decide (0 < T7 j ∧ O7 j < 0))) := Lib.hid (hB8.congr fun i _ => by simp)
          have HF8 := Lib.hid (hF7.grows hg8)
          have HG8 := Lib.hid (hG7.trans hg8)
          have HQ : Hid (W.heap.size ≤ q ∧ p ∉ [q] ∧ bt ∉ [q] ∧ bw ∉ [q]) := Lib.hid (by
            have := hG7.size
            refine ⟨by omega, ?_, ?_, ?_⟩ <;> simp <;> omega)
          have HALL := Lib.hid hall
          subst hw7
          clear hF7 hG7 hB8 hg8 hw8 hq hlt1 hlt2 hlt3 hall HF6 HG6 x0 x1 x2 x3 HR5 hbab hal hhold hfree hmove hquota
          go_wp2_with fail
          go_loopw [16, 18, 19] (fun s f u wr => ∃ (k sm : Nat) (fr : Int), k ≤ 17 ∧ sm = sumC n T7 O7 k ∧ s = .int .i64 sm ∧ f = .int .i64 fr ∧ (k = 0 ∨ fr = (n : Int) - (heldC n T7 : Nat)) ∧ u = .int .i64 k ∧ Bls wr q n (fun j => decide (0 < T7 j ∧ O7 j < k)) ∧ FrAt wr p bt bw n first T7 O7 Q7 low7 ∧ Grows W wr) (fun _ _ u _ => (17 - intOf u).toNat)
          case atStart => exact ⟨0, 0, 0, by omega, rfl, rfl, rfl, Or.inl rfl, rfl, HB8.out, HF8.out, HG8.out⟩
          case round =>
            clear HB8 HF8 HG8
            obtain ⟨k, sm, fr, hk17, hsm, rfl, rfl, hfr, rfl, hBl, hF, hG⟩ := hrel
            obtain ⟨wo, rfl⟩ : ∃ wo : World, wo = wr := ⟨_, rfl⟩
            have hsn := sumC_le n T7 O7 k
            rw [← hsm] at hsn
            have HSM := Lib.hid hsm
            have HBl := Lib.hid hBl
            have HF := Lib.hid hF
            have HG := Lib.hid hG
            have HFR := Lib.hid hfr
            clear hsm hBl hF hG hfr
            by_cases hlt17 : k < 17
            · have hcnt := Count_any HF.out (k : Int)
              rw [own_at n T7 O7 hlt17] at hcnt
              obtain ⟨l, hl⟩ : ∃ l, l = listC T7 O7 k n := ⟨_, rfl⟩
              have hll : l.length = ownC n T7 O7 k := by rw [hl]; exact listC_length T7 O7 k n
              have hln : l.length ≤ n := by rw [hll]; exact ownC_le
              rw [← hll] at hcnt
              obtain ⟨fr2, hfr2⟩ : ∃ fr2 : Int, fr2 = (n : Int) - (heldC n T7 : Nat) := ⟨_, rfl⟩
              rw [← hfr2] at hcnt
              have HFR2 := Lib.hid hfr2
              have HL := Lib.hid hl
              have HLL := Lib.hid hll
              clear hfr2 hl hll HFR
              go_wp2_with fail
              refine hcnt.mono ?_
              rintro _ w1 ⟨rfl, hg1⟩
              have HG1 := Lib.hid hg1
              have hlist := List_any (HF.out.grows hg1) hlt17
              clear hcnt hg1
              go_wp2_with fail
              refine hlist.mono ?_
              rintro _ w2 ⟨v, rfl, hown, hg2⟩
              rw [← HL.out] at hown
              obtain ⟨A2, cap2, rfl, hc1, hc2, hat⟩ := lst_of HLL.out hown
              have HAT : Hid (∀ i, i < l.length → ∃ g, A2 = some ⟨g, 0, none⟩ ∧ g ∉ [q] ∧ g < w2.heap.size ∧ w2.cell? ⟨g, i, none⟩ = some (.int .i64 (l.getD i 0 : Nat))) := Lib.hid (fun i hi => by
                obtain ⟨g, h1, h2, h3, h4⟩ := hat i hi
                refine ⟨g, h1, ?_, h3, h4⟩
                have := HBl.out.lt
                have := HG1.out.size
                simp; omega)
              have HG2 := Lib.hid (HG1.out.trans hg2)
              have HB2 := Lib.hid ((HBl.out.grows HG2.out).congr (fun i _ => (congrFun (seenF_zero T7 O7 k l) i).symm))
              have HF2 := Lib.hid (HF.out.grows HG2.out)
              have HGW2 := Lib.hid (HG.out.trans HG2.out)
              clear hlist hown hat hg2 HG1 HG2 HBl HF HG
              go_wp2_with fail
              go_loopw [23] (fun u wi => ∃ i : Nat, i ≤ l.length ∧ u = .int .i64 i ∧ Chg [q] w2 wi ∧ Bls wi q n (seenF T7 O7 k l i)) (fun u _ => (l.length - intOf u).toNat)
              case atStart => exact ⟨0, by omega, rfl, Chg.refl _ _, HB2.out⟩
              case round =>
                clear HB2
                obtain ⟨i, hi, rfl, hC, hBi⟩ := hrel
                have HFi := Lib.hid (HF2.out.chg hC HQ.out.2)
                have HC := Lib.hid hC
                have HBi := Lib.hid hBi
                clear hC hBi
                by_cases hil : i < l.length
                · obtain ⟨g, rfl, hgq, hgl, hgc⟩ := HAT.out i hil
                  have hmem : l.getD i 0 < n ∧ 0 < T7 (l.getD i 0) ∧ O7 (l.getD i 0) = k := by
                    rw [HL.out] at hil ⊢
                    exact listC_mem.1 (List.mem_of_getElem? (listC_getD_mem hil))
                  have hno : seenF T7 O7 k l i (l.getD i 0) = false := by
                    have h := hil
                    rw [HL.out] at h ⊢
                    exact seenF_no h
                  have hnx := seenF_next (T := T7) (O := O7) (k := k) hil
                  have e0 := (HC.out.cell hgl hgq).trans hgc
                  generalize l.getD i 0 = j at *
                  obtain ⟨hjn, hTj, hOj⟩ := hmem
                  have how := Owner_some HFi.out hjn hTj
                  rw [hOj] at how
                  have HNX := Lib.hid hnx
                  have hgl2 : g < wr.heap.size := HC.out.lt hgl
                  have HNO := Lib.hid hno
                  generalize T7 j = tj at how
                  clear hgc hnx hTj hOj hno HAT
                  go_wp2_with fail
                  refine how.mono ?_
                  rintro _ w3 ⟨rfl, hg3⟩
                  have e1 : w3.cell? ⟨g, i, none⟩ = some (.int .i64 j) := (hg3.cell hgl2).trans e0
                  have e2 : w3.cell? ⟨q, j, none⟩ = some (.bool false) := by rw [(HBi.out.grows hg3).cell hjn, HNO.out]
                  have e3 := (HBi.out.grows hg3).frozen j
                  have HB3 : Hid (Bls (w3.setCell ⟨q, j, none⟩ (.bool true)) q n (seenF T7 O7 k l (i + 1))) := Lib.hid (by
                    rw [← HNX.out]
                    exact (HBi.out.grows hg3).set hjn true)
                  have HC3 : Hid (Chg [q] w2 (w3.setCell ⟨q, j, none⟩ (.bool true))) := Lib.hid ((HC.out.grows hg3).setCell (Or.inl (by simp)) _ _)
                  clear how e0 hg3 HBi HC HNX HNO HFi
                  go_wp2_with fail
                  go_roundw
                  case measure => simp [intOf]; omega
                  case rel => exact ⟨i + 1, by omega, by simp, HC3.out, HB3.out⟩
                · obtain rfl : i = l.length := by omega
                  have HB3 : Hid (Bls wr q n (fun j => decide (0 < T7 j ∧ O7 j < k + 1))) := by
                    show Bls _ _ _ _
                    refine HBi.out.congr ?_
                    rw [HL.out]
                    exact seenF_all
                  have HG3 : Hid (Grows W wr) := HC.out.to_grows HGW2.out (by have := HQ.out.1; simp; omega)
                  have HSM3 : Hid (sm + l.length = sumC n T7 O7 (k + 1)) := by
                    show _ = _
                    rw [HSM.out, HLL.out]; rfl
                  clear HBi HC HAT
                  go_wp2_with fail
                  go_roundw
                  case measure => simp [intOf]; omega
                  case rel => exact ⟨k + 1, sm + l.length, fr2, by omega, HSM3.out, by simp, rfl, Or.inr HFR2.out, by simp, HB3.out, HFi.out, HG3.out⟩
            · obtain rfl : k = 17 := by omega
              have hs : (sm : Int) + fr = n := by
                have h1 := HSM.out
                rw [HALL.out] at h1
                have h2 := HFR.out
                omega
              clear HSM HFR HBl
              go_wp2_with fail
              go_roundw
              case measure => simp [intOf]; omega
              case rel => exact ⟨kk + 1, _, _, _, _, by omega, by simp, HF.out, HG.out⟩
    · have : m = kk := by omega
      subst this
      have HG := Lib.hid hG
      clear hF hG hX
      go_wp2_with fail
      go_ret
      exact ⟨by simp, HG.out⟩
end
end Go.Proofs.Ytbiadhgkpggdeaa
