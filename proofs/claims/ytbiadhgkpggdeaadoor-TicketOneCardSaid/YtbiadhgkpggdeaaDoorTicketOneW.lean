/- The walk of TicketOne. -/
import Derived.Test.YtbiadhgkpggdeaaDoorTickLaw
namespace Go.Proofs.YtbiadhgkpggdeaaDoor
open Go Go.RowKit
set_option linter.unusedSimpArgs false
set_option linter.unusedVariables false
theorem Load_num {w : World} {pl p q N A qc n X V : Nat} {B : Nat → Nat} {S T : Nat → Nat} (h : Ready w pl p q N A qc n B S T) (h8 : X % 8 = 0) (hN : X + 8 ≤ N) (hV : numB B X = V) :
    Calls Tryd.prog 13 #[.pointer (some ⟨p, 0, none⟩), .int .u64 X, .int .i64 8] w fun r w' => r = .returned (.tuple #[.int .u64 V, .int .i64 0]) ∧ Grows w w' := by
  have := Load_ok h.hW h.m X 8 rfl h8 hN
  rwa [show loadN (segB B X 8) = V from hV] at this
/-- Between two rounds. -/
structure One (n : Nat) (S T : Nat → Nat) (nx nw k : Nat) : Prop where
  s : ∀ c, c < n → S c = 0 ∨ S c = 2 ∨ S c = 3
  h : ∀ c, c < n → S c = 3 → T c = nw
  d : ∀ c d, c < n → d < n → c ≠ d → S c ≠ 0 → S d ≠ 0 → T c ≠ T d
  lt : ∀ c, c < n → S c ≠ 0 → T c < nx
  le : nw ≤ nx
  k : nx ≤ k
theorem one_start (n : Nat) : One n (fun _ => 0) (fun _ => 0) 0 0 0 :=
  ⟨fun _ _ => Or.inl rfl, fun _ _ h => (by cases h), fun _ _ _ _ _ h _ => absurd rfl h, fun _ _ h => absurd rfl h, Nat.le_refl _, Nat.le_refl _⟩
theorem One.take {n nx nw k c : Nat} {S T : Nat → Nat} (h : One n S T nx nw k) (hc : c < n) (h0 : S c = 0) : One n (updN (updN S c 1) c 2) (updN T c nx) (nx + 1) nw (k + 1) := by
  rw [updN_updN]
  refine ⟨fun e he => ?_, fun e he h3 => ?_, fun e f he hf hef h1 h2 => ?_, fun e he h1 => ?_, by have := h.le; omega, by have := h.k; omega⟩
  · by_cases e1 : e = c
    · rw [e1, updN_same]; omega
    · rw [updN_ne _ _ e1]; exact h.s e he
  · by_cases e1 : e = c
    · rw [e1, updN_same] at h3; omega
    · rw [updN_ne _ _ e1] at h3 ⊢; exact h.h e he h3
  · by_cases e1 : e = c
    · have e2 : f ≠ c := by omega
      rw [e1, updN_same, updN_ne _ _ e2]
      rw [updN_ne _ _ e2] at h2
      have := h.lt f hf h2
      omega
    · rw [updN_ne _ _ e1] at h1 ⊢
      by_cases e2 : f = c
      · rw [e2, updN_same]
        have := h.lt e he h1
        omega
      · rw [updN_ne _ _ e2] at h2 ⊢
        exact h.d e f he hf hef h1 h2
  · by_cases e1 : e = c
    · rw [e1, updN_same]; omega
    · rw [updN_ne _ _ e1] at h1 ⊢
      have := h.lt e he h1
      omega
theorem One.hold {n nx nw k c : Nat} {S T : Nat → Nat} (h : One n S T nx nw k) (hc : c < n) (h0 : S c = 2) (ht : nw = T c) : One n (updN S c 3) T nx nw (k + 1) := by
  refine ⟨fun e he => ?_, fun e he h3 => ?_, fun e f he hf hef h1 h2 => ?_, fun e he h1 => ?_, h.le, by have := h.k; omega⟩
  · by_cases e1 : e = c
    · rw [e1, updN_same]; omega
    · rw [updN_ne _ _ e1]; exact h.s e he
  · by_cases e1 : e = c
    · rw [e1]; exact ht.symm
    · rw [updN_ne _ _ e1] at h3; exact h.h e he h3
  · refine h.d e f he hf hef ?_ ?_
    · by_cases e1 : e = c
      · rw [e1]; omega
      · rwa [updN_ne _ _ e1] at h1
    · by_cases e1 : f = c
      · rw [e1]; omega
      · rwa [updN_ne _ _ e1] at h2
  · refine h.lt e he ?_
    by_cases e1 : e = c
    · rw [e1]; omega
    · rwa [updN_ne _ _ e1] at h1
theorem One.same {n nx nw k c v : Nat} {S T : Nat → Nat} (h : One n S T nx nw k) (hv : S c = v) : One n (updN S c v) T nx nw (k + 1) := by
  have e : updN S c v = S := by
    funext j; unfold updN; split
    · rename_i hj; rw [hj, hv]
    · rfl
  rw [e]
  exact ⟨h.s, h.h, h.d, h.lt, h.le, by have := h.k; omega⟩
theorem One.alone {n nx nw k c d : Nat} {S T : Nat → Nat} (h : One n S T nx nw k) (hc : c < n) (h0 : S c ≠ 0) (ht : T c = nw) (hd : d < n) (hdc : d ≠ c) : S d ≠ 3 := fun h3 =>
  h.d d c hd hc hdc (by omega) h0 (by rw [h.h d hd h3, ht])
theorem One.give {n nx nw k c : Nat} {S T : Nat → Nat} (h : One n S T nx nw k) (hc : c < n) (h0 : S c = 3) : One n (updN (updN S c 4) c 0) T nx (nw + 1) (k + 1) := by
  rw [updN_updN]
  have ht := h.h c hc h0
  refine ⟨fun e he => ?_, fun e he h3 => ?_, fun e f he hf hef h1 h2 => ?_, fun e he h1 => ?_, by have := h.lt c hc (by omega); omega, by have := h.k; omega⟩
  · by_cases e1 : e = c
    · rw [e1, updN_same]; omega
    · rw [updN_ne _ _ e1]; exact h.s e he
  · by_cases e1 : e = c
    · rw [e1, updN_same] at h3; omega
    · rw [updN_ne _ _ e1] at h3
      exact absurd h3 (h.alone hc (by omega) ht he e1)
  · refine h.d e f he hf hef ?_ ?_
    · by_cases e1 : e = c
      · rw [e1]; omega
      · rwa [updN_ne _ _ e1] at h1
    · by_cases e1 : f = c
      · rw [e1]; omega
      · rwa [updN_ne _ _ e1] at h2
  · refine h.lt e he ?_
    by_cases e1 : e = c
    · rw [e1]; omega
    · rwa [updN_ne _ _ e1] at h1
/-- Of the first k cores none but c holds. -/
def freeB (S : Nat → Nat) (c : Nat) : Nat → Bool
  | 0 => true
  | k + 1 => freeB S c k && !(decide (k ≠ c) && (decide (S k = 3) || decide (S k = 4)))
theorem freeB_true {S : Nat → Nat} {c : Nat} : ∀ {n : Nat}, (∀ d, d < n → d ≠ c → S d ≠ 3 ∧ S d ≠ 4) → freeB S c n = true
  | 0, _ => rfl
  | n + 1, h => by
    unfold freeB
    rw [freeB_true fun d hd hn => h d (by omega) hn]
    by_cases e : n = c
    · simp [e]
    · have := h n (by omega) e
      simp [e, this.1, this.2]
section
variable {H : Type} {enc : TypeId × Value → H}
theorem pick_at {W : World} {A : Option Addr} {m : Nat} {X : Nat → List Value} (hX : SliceIs2 enc Tryd.prog W [3] A m X) {i : Nat} (hi : i < m) :
    ∃ b o, A = some ⟨b, o, none⟩ ∧ b < W.heap.size ∧ ∃ x : Int, W.cell? ⟨b, o + i, none⟩ = some (.int .i64 x) ∧ -9223372036854775808 ≤ x ∧ x ≤ 9223372036854775807 := by
  obtain ⟨b, o, hA, hb, hL, hc⟩ := hX i hi
  obtain ⟨c0, cs0, e0, l0, hL⟩ := hL.cons
  obtain ⟨x, rfl, hx⟩ := l0.int Tryd.underlying3
  have hxb := bounds_i64 hx
  refine ⟨b, o, hA, hb, x, ?_, by omega, by omega⟩
  have := hc 0 (by decide)
  rw [e0] at this
  simpa using this
/-- Which core is picked. -/
theorem pick_core (x : Int) (n : Nat) (h1 : 1 ≤ n) (h8 : n ≤ 8) : ∃ c : Nat, (wrap64 (x.tmod n + n)).tmod n = c ∧ c < n := by
  have t1 := Int.tmod_lt_of_pos x (b := (n : Int)) (by omega)
  have t2 := Int.lt_tmod_of_pos x (b := (n : Int)) (by omega)
  rw [wrap64_small (by omega) (by omega)]
  refine ⟨((x.tmod n + n).tmod n).toNat, ?_, ?_⟩
  · rw [Int.toNat_of_nonneg (Int.tmod_nonneg _ (by omega))]
  · have := Int.tmod_lt_of_pos (x.tmod n + n) (b := (n : Int)) (by omega)
    omega
set_option maxRecDepth 100000 in
set_option maxHeartbeats 4000000 in
theorem ticketOne_walk (W : World) (K : Int) (_ : (Lit.int .i64 K).wf = true) (A : Option Addr) (m c : Nat) (X : Nat → List Value) (hmc : m ≤ c) (hsz : c * 8 < 140737488355328) (hX : SliceIs2 enc Tryd.prog W [3] A m X) (hA : A = none → c = 0) (hW : Widths W) (hF : Follows W) :
    Calls Tryd.prog 7 #[.int .i64 K, .slice A m c] W fun r w' => r = .returned (.bool true) ∧ Grows W w' := by
  have hm : m ≤ 140737488355328 := by omega
  obtain ⟨n, hn, hn1, hn8⟩ : ∃ n : Nat, wrap64 (1 + bits .and .i64 K 7) = n ∧ 1 ≤ n ∧ n ≤ 8 := by
    have e : bits .and .i64 K 7 = K % 8 := and_mask_i64 (n := 3) (by omega)
    rw [e, wrap64_small (by omega) (by omega)]
    exact ⟨(1 + K % 8).toNat, by omega, by omega, by omega⟩
  have HN := Lib.hid hn
  have HW := Lib.hid hW
  have HF := Lib.hid hF
  clear hn hW hF hsz
  go_enter Tryd.func7, Tryd.ntmps7
  go_wp2_with fail
  refine (new_ok 1 (by omega) (by omega) _).mono ?_
  rintro _ w1 ⟨p, q, rfl, hM1, hg1, hp, hq, hqp⟩
  have hgW := HW.out.1
  have hgF := HF.out.1
  have hl := tnew_ok (N := 256) (A := 16) (HW.out.grows hg1) (HF.out.grows hg1) (show Mem w1 p q 256 _ from hM1) (by omega) hn1 hn8 rfl (by omega) (by omega)
  go_wp2_with fail
  rw [HN.out]
  refine hl.mono ?_
  rintro _ w2 ⟨pl, qc, rfl, hR2, hC2, hqc, hpl⟩
  have HG2 : Hid (Grows W w2) := hC2.to_grows hg1 (by simpa using hq)
  have HQ : Hid (W.heap.size ≤ q ∧ W.heap.size ≤ qc) := Lib.hid (by have := hg1.size; omega)
  have z0 : numB (putB (fun _ => 0) 16 (List.replicate 16 0)) 16 = 0 := numB_zeros _ 16 32 (by omega) 16 (by omega)
  have z1 : numB (putB (fun _ => 0) 16 (List.replicate 16 0)) 24 = 0 := numB_zeros _ 24 32 (by omega) 16 (by omega)
  have HZ := Lib.hid (And.intro z0 z1)
  clear z0 z1 hl hM1 hC2 hg1 hp hq hqp hqc hpl
  generalize putB (fun _ => 0) 16 (List.replicate 16 0) = B0 at *
  go_wp2_with fail
  go_loopw [8, 9] (fun od i wr => ∃ (k o : Nat) (B S T : Nat → Nat), k ≤ m ∧ i = .int .i64 k ∧ od = .int .u64 o ∧ Ready wr pl p q 256 16 qc n B S T ∧ One n S T (numB B 16) o k ∧ numB B 24 = o ∧ Grows W wr) (fun _ i _ => (m - intOf i).toNat)
  case atStart => exact ⟨0, 0, B0, _, _, by omega, rfl, rfl, hR2, by rw [HZ.out.1]; exact one_start n, HZ.out.2, HG2.out⟩
  case round =>
    obtain ⟨k, o, B, S, T, hk, rfl, rfl, hR, h1, hw, hG⟩ := hrel
    clear hR2
    by_cases hlt : k < m
    · obtain ⟨b, of, rfl, hb, x, hx, hxb⟩ := pick_at hX hlt
      have cx : wr.cell? ⟨b, of + k, none⟩ = some (.int .i64 x) := by rw [hG.cell hb]; exact hx
      obtain ⟨i, hi, hin⟩ := pick_core x n hn1 hn8
      have HI := Lib.hid hi
      clear hX hx hi
      have HO := Lib.hid h1
      have HW' := Lib.hid hw
      have HG := Lib.hid hG
      have hst := State_any hR.l hin
      have hs3 := h1.s i hin
      have ho64 : o ≤ 140737488355328 := by have := h1.le; have := h1.k; omega
      have HRR := Lib.hid hR
      clear h1 hw hG hR
      go_wp2_with fail
      rw [HI.out]
      refine hst.mono ?_
      rintro _ w3 ⟨rfl, hg3⟩
      have hR3 := HRR.out.grows hg3
      have HG3 := Lib.hid (HG.out.trans hg3)
      have cx3 : w3.cell? ⟨b, of + k, none⟩ = some (.int .i64 x) := by rw [hg3.cell (HG.out.lt hb)]; exact cx
      clear hst HG HRR cx hg3
      rcases hs3 with h0 | h0 | h0
      · rw [h0]
        have htk := Take_any hR3 hin
        rw [h0] at htk
        simp only [if_pos] at htk
        clear hR3
        go_wp2_with fail
        refine htk.mono ?_
        rintro _ w4 ⟨rfl, hR4, hC4⟩
        have hgv := Give_any hR4 hin
        rw [updN_same] at hgv
        simp only [if_neg (show ¬ (1 = 3) by decide)] at hgv
        have HC4 := Lib.hid hC4
        clear htk hR4 hC4
        go_wp2_with fail
        refine hgv.mono ?_
        rintro _ w5 ⟨rfl, hR5, hC5⟩
        have hst := step_1 hR5 hin (updN_same _ _ _)
        have HC5 := Lib.hid (HC4.out.trans hC5)
        clear hgv hR5 hC5 HC4
        go_wp2_with fail
        refine hst.mono ?_
        rintro _ w6 ⟨rfl, hR6, hC6⟩
        have HG6 := Lib.hid ((HC5.out.trans hC6).to_grows HG3.out (by have := HQ.out; simp; omega))
        have HR := Lib.hid hR6
        have HONE : Hid (One n (updN (updN S i 1) i 2) (updN T i (numB B 16)) (numB (incB B 16) 16) o (k + 1)) := by
          show One _ _ _ _ _ _
          have hlt2 : numB B 16 + 1 < 18446744073709551616 := by have := HO.out.k; omega
          rw [numB_incB, inc64_small hlt2]
          exact HO.out.take hin h0
        have HNW : Hid (numB (incB B 16) 24 = o) := by show _ = _; rw [numB_incB_other _ _ _ (by omega)]; exact HW'.out
        generalize updN (updN S i 1) i 2 = S' at *
        generalize updN T i (numB B 16) = T' at *
        generalize incB B 16 = B' at *
        clear hst hR6 hC6 HC5 HG3 h0
        go_wp2_with fail
        go_loopw [15, 16] (fun f j wq => ∃ d : Nat, d ≤ n ∧ j = .int .i64 d ∧ f = .bool (freeB S' i d) ∧ Grows w6 wq) (fun _ j _ => (n - intOf j).toNat)
        case atStart => exact ⟨0, by omega, rfl, rfl, Grows.refl _⟩
        case round =>
          obtain ⟨d, hd, rfl, rfl, hgr⟩ := hrel
          by_cases hdn : d < n
          · have hst := State_any (HR.out.l.grows hgr) hdn
            have HGR := Lib.hid hgr
            clear hgr
            by_cases e : d = i
            · have eb : ((d : Int) != (i : Int)) = false := by simp; omega
              have HE : Hid (freeB S' i (d + 1) = freeB S' i d) := by show _ = _; simp [freeB, e]
              clear e
              generalize S' d = sd at *
              go_wp2_with fail
              refine hst.mono ?_
              rintro _ wz ⟨rfl, hgz⟩
              go_wp2_with fail
              exact ⟨⟨d + 1, by omega, by simp, by rw [HE.out], HGR.out.trans hgz⟩, by simp [intOf]; omega⟩
            · have eb : ((d : Int) != (i : Int)) = true := by simp; omega
              by_cases s3 : S' d = 3
              · have HE : Hid (freeB S' i (d + 1) = false) := by show _ = _; simp [freeB, e, s3]
                rw [s3] at hst
                clear e s3
                go_wp2_with fail
                refine hst.mono ?_
                rintro _ wz ⟨rfl, hgz⟩
                go_wp2_with fail
                exact ⟨⟨d + 1, by omega, by simp, by rw [HE.out], HGR.out.trans hgz⟩, by simp [intOf]; omega⟩
              · by_cases s4 : S' d = 4
                · have HE : Hid (freeB S' i (d + 1) = false) := by show _ = _; simp [freeB, e, s4]
                  rw [s4] at hst
                  clear e s3 s4
                  go_wp2_with fail
                  refine hst.mono ?_
                  rintro _ wz ⟨rfl, hgz⟩
                  go_wp2_with fail
                  exact ⟨⟨d + 1, by omega, by simp, by rw [HE.out], HGR.out.trans hgz⟩, by simp [intOf]; omega⟩
                · have HE : Hid (freeB S' i (d + 1) = freeB S' i d) := by show _ = _; simp [freeB, e, s3, s4]
                  have b3 : ((S' d : Int) == 3) = false := by simp; omega
                  have b4 : ((S' d : Int) == 4) = false := by simp; omega
                  clear e s3 s4
                  generalize S' d = sd at *
                  go_wp2_with fail
                  refine hst.mono ?_
                  rintro _ wz ⟨rfl, hgz⟩
                  go_wp2_with fail
                  exact ⟨⟨d + 1, by omega, by simp, by rw [HE.out], HGR.out.trans hgz⟩, by simp [intOf]; omega⟩
          · have : d = n := by omega
            subst this
            generalize freeB S' i d = fr at *
            have HGR := Lib.hid hgr
            clear hgr
            go_wp2_with fail
            exact ⟨⟨k + 1, o, B', S', T', by omega, by simp, rfl, HR.out.grows HGR.out, HONE.out, HNW.out, HG6.out.trans HGR.out⟩, by simp [intOf]; omega⟩
      · rw [h0]
        have hst := step_2 hR3 hin h0
        rw [show (16 : Nat) + 8 = 24 from rfl, HW'.out] at hst
        have htz := HO.out.k
        by_cases ht : o = T i
        · rw [if_pos ht, if_pos ht] at hst
          have hq : ((T i : Int) == (o : Int)) = true := by simp; omega
          have HTI : Hid (T i = o) := ht.symm
          clear hR3
          go_wp2_with fail
          refine hst.mono ?_
          rintro _ w6 ⟨rfl, hR6, hC6⟩
          have HG6 := Lib.hid (hC6.to_grows HG3.out (by have := HQ.out; simp; omega))
          have HR := Lib.hid hR6
          have HONE := Lib.hid (HO.out.hold hin h0 ht)
          have HFR : Hid (freeB (updN S i 3) i n = true) := freeB_true fun d hd hdi => by
            rw [updN_ne _ _ hdi]
            have h3 := HO.out.alone hin (by omega) ht.symm hd hdi
            have := HO.out.s d hd
            omega
          generalize updN S i 3 = S' at *
          generalize T i = ti at *
          clear hst hR6 hC6 HG3 h0 ht
          go_wp2_with fail
          go_loopw [15, 16] (fun f j wq => ∃ d : Nat, d ≤ n ∧ j = .int .i64 d ∧ f = .bool (freeB S' i d) ∧ Grows w6 wq) (fun _ j _ => (n - intOf j).toNat)
          case atStart => exact ⟨0, by omega, rfl, rfl, Grows.refl _⟩
          case round =>
            obtain ⟨d, hd, rfl, rfl, hgr⟩ := hrel
            by_cases hdn : d < n
            · have hst := State_any (HR.out.l.grows hgr) hdn
              have HGR := Lib.hid hgr
              clear hgr
              by_cases e : d = i
              · have eb : ((d : Int) != (i : Int)) = false := by simp; omega
                have HE : Hid (freeB S' i (d + 1) = freeB S' i d) := by show _ = _; simp [freeB, e]
                clear e
                generalize S' d = sd at *
                go_wp2_with fail
                refine hst.mono ?_
                rintro _ wz ⟨rfl, hgz⟩
                go_wp2_with fail
                exact ⟨⟨d + 1, by omega, by simp, by rw [HE.out], HGR.out.trans hgz⟩, by simp [intOf]; omega⟩
              · have eb : ((d : Int) != (i : Int)) = true := by simp; omega
                by_cases s3 : S' d = 3
                · have HE : Hid (freeB S' i (d + 1) = false) := by show _ = _; simp [freeB, e, s3]
                  rw [s3] at hst
                  clear e s3
                  go_wp2_with fail
                  refine hst.mono ?_
                  rintro _ wz ⟨rfl, hgz⟩
                  go_wp2_with fail
                  exact ⟨⟨d + 1, by omega, by simp, by rw [HE.out], HGR.out.trans hgz⟩, by simp [intOf]; omega⟩
                · by_cases s4 : S' d = 4
                  · have HE : Hid (freeB S' i (d + 1) = false) := by show _ = _; simp [freeB, e, s4]
                    rw [s4] at hst
                    clear e s3 s4
                    go_wp2_with fail
                    refine hst.mono ?_
                    rintro _ wz ⟨rfl, hgz⟩
                    go_wp2_with fail
                    exact ⟨⟨d + 1, by omega, by simp, by rw [HE.out], HGR.out.trans hgz⟩, by simp [intOf]; omega⟩
                  · have HE : Hid (freeB S' i (d + 1) = freeB S' i d) := by show _ = _; simp [freeB, e, s3, s4]
                    have b3 : ((S' d : Int) == 3) = false := by simp; omega
                    have b4 : ((S' d : Int) == 4) = false := by simp; omega
                    clear e s3 s4
                    generalize S' d = sd at *
                    go_wp2_with fail
                    refine hst.mono ?_
                    rintro _ wz ⟨rfl, hgz⟩
                    go_wp2_with fail
                    exact ⟨⟨d + 1, by omega, by simp, by rw [HE.out], HGR.out.trans hgz⟩, by simp [intOf]; omega⟩
            · have : d = n := by omega
              subst this
              rw [HFR.out]
              have HGR := Lib.hid hgr
              clear hgr
              go_wp2_with fail
              exact ⟨⟨k + 1, o, B, S', T, by omega, by simp, by first | rfl | rw [HTI.out], HR.out.grows HGR.out, HONE.out, HW'.out, HG6.out.trans HGR.out⟩, by simp [intOf]; omega⟩
        · rw [if_neg ht, if_neg ht] at hst
          have hq : ((T i : Int) == (o : Int)) = false := by simp; omega
          clear hR3
          go_wp2_with fail
          refine hst.mono ?_
          rintro _ w6 ⟨rfl, hR6, hC6⟩
          have HG6 := Lib.hid (hC6.to_grows HG3.out (by have := HQ.out; simp; omega))
          have HR := Lib.hid hR6
          have HONE := Lib.hid (HO.out.same h0)
          generalize updN S i 2 = S' at *
          generalize T i = ti at *
          clear hst hR6 hC6 HG3 h0 ht
          go_wp2_with fail
          go_loopw [15, 16] (fun f j wq => ∃ d : Nat, d ≤ n ∧ j = .int .i64 d ∧ f = .bool (freeB S' i d) ∧ Grows w6 wq) (fun _ j _ => (n - intOf j).toNat)
          case atStart => exact ⟨0, by omega, rfl, rfl, Grows.refl _⟩
          case round =>
            obtain ⟨d, hd, rfl, rfl, hgr⟩ := hrel
            by_cases hdn : d < n
            · have hst := State_any (HR.out.l.grows hgr) hdn
              have HGR := Lib.hid hgr
              clear hgr
              by_cases e : d = i
              · have eb : ((d : Int) != (i : Int)) = false := by simp; omega
                have HE : Hid (freeB S' i (d + 1) = freeB S' i d) := by show _ = _; simp [freeB, e]
                clear e
                generalize S' d = sd at *
                go_wp2_with fail
                refine hst.mono ?_
                rintro _ wz ⟨rfl, hgz⟩
                go_wp2_with fail
                exact ⟨⟨d + 1, by omega, by simp, by rw [HE.out], HGR.out.trans hgz⟩, by simp [intOf]; omega⟩
              · have eb : ((d : Int) != (i : Int)) = true := by simp; omega
                by_cases s3 : S' d = 3
                · have HE : Hid (freeB S' i (d + 1) = false) := by show _ = _; simp [freeB, e, s3]
                  rw [s3] at hst
                  clear e s3
                  go_wp2_with fail
                  refine hst.mono ?_
                  rintro _ wz ⟨rfl, hgz⟩
                  go_wp2_with fail
                  exact ⟨⟨d + 1, by omega, by simp, by rw [HE.out], HGR.out.trans hgz⟩, by simp [intOf]; omega⟩
                · by_cases s4 : S' d = 4
                  · have HE : Hid (freeB S' i (d + 1) = false) := by show _ = _; simp [freeB, e, s4]
                    rw [s4] at hst
                    clear e s3 s4
                    go_wp2_with fail
                    refine hst.mono ?_
                    rintro _ wz ⟨rfl, hgz⟩
                    go_wp2_with fail
                    exact ⟨⟨d + 1, by omega, by simp, by rw [HE.out], HGR.out.trans hgz⟩, by simp [intOf]; omega⟩
                  · have HE : Hid (freeB S' i (d + 1) = freeB S' i d) := by show _ = _; simp [freeB, e, s3, s4]
                    have b3 : ((S' d : Int) == 3) = false := by simp; omega
                    have b4 : ((S' d : Int) == 4) = false := by simp; omega
                    clear e s3 s4
                    generalize S' d = sd at *
                    go_wp2_with fail
                    refine hst.mono ?_
                    rintro _ wz ⟨rfl, hgz⟩
                    go_wp2_with fail
                    exact ⟨⟨d + 1, by omega, by simp, by rw [HE.out], HGR.out.trans hgz⟩, by simp [intOf]; omega⟩
            · have : d = n := by omega
              subst this
              have HGR := Lib.hid hgr
              clear hgr
              cases freeB S' i d
              all_goals
                go_wp2_with fail
                exact ⟨⟨k + 1, o, B, S', T, by omega, by simp, rfl, HR.out.grows HGR.out, HONE.out, HW'.out, HG6.out.trans HGR.out⟩, by simp [intOf]; omega⟩
      · rw [h0]
        by_cases hp : bits .and .i64 x 64 = 0
        · have hb : (bits .and .i64 x 64 != 0) = false := by simp [hp]
          have htk := Take_any hR3 hin
          rw [h0] at htk
          simp only [if_neg (show ¬ (3 = 0) by decide)] at htk
          clear hR3 hp
          go_wp2_with fail
          refine htk.mono ?_
          rintro _ w5 ⟨rfl, hR5, hC5⟩
          have hst := step_3 hR5 hin h0
          have HC5 := Lib.hid hC5
          clear htk hR5 hC5
          go_wp2_with fail
          refine hst.mono ?_
          rintro _ w6 ⟨rfl, hR6, hC6⟩
          have HG6 := Lib.hid ((HC5.out.trans hC6).to_grows HG3.out (by have := HQ.out; simp; omega))
          have HR := Lib.hid hR6
          have HONE := Lib.hid (HO.out.same h0)
          have HFR : Hid (freeB (updN S i 3) i n = true) := freeB_true fun d hd hdi => by
            rw [updN_ne _ _ hdi]
            have h3 := HO.out.alone hin (by omega) (HO.out.h i hin h0) hd hdi
            have := HO.out.s d hd
            omega
          generalize updN S i 3 = S' at *
          clear hst hR6 hC6 HG3 h0 HC5
          go_wp2_with fail
          go_loopw [15, 16] (fun f j wq => ∃ d : Nat, d ≤ n ∧ j = .int .i64 d ∧ f = .bool (freeB S' i d) ∧ Grows w6 wq) (fun _ j _ => (n - intOf j).toNat)
          case atStart => exact ⟨0, by omega, rfl, rfl, Grows.refl _⟩
          case round =>
            obtain ⟨d, hd, rfl, rfl, hgr⟩ := hrel
            by_cases hdn : d < n
            · have hst := State_any (HR.out.l.grows hgr) hdn
              have HGR := Lib.hid hgr
              clear hgr
              by_cases e : d = i
              · have eb : ((d : Int) != (i : Int)) = false := by simp; omega
                have HE : Hid (freeB S' i (d + 1) = freeB S' i d) := by show _ = _; simp [freeB, e]
                clear e
                generalize S' d = sd at *
                go_wp2_with fail
                refine hst.mono ?_
                rintro _ wz ⟨rfl, hgz⟩
                go_wp2_with fail
                exact ⟨⟨d + 1, by omega, by simp, by rw [HE.out], HGR.out.trans hgz⟩, by simp [intOf]; omega⟩
              · have eb : ((d : Int) != (i : Int)) = true := by simp; omega
                by_cases s3 : S' d = 3
                · have HE : Hid (freeB S' i (d + 1) = false) := by show _ = _; simp [freeB, e, s3]
                  rw [s3] at hst
                  clear e s3
                  go_wp2_with fail
                  refine hst.mono ?_
                  rintro _ wz ⟨rfl, hgz⟩
                  go_wp2_with fail
                  exact ⟨⟨d + 1, by omega, by simp, by rw [HE.out], HGR.out.trans hgz⟩, by simp [intOf]; omega⟩
                · by_cases s4 : S' d = 4
                  · have HE : Hid (freeB S' i (d + 1) = false) := by show _ = _; simp [freeB, e, s4]
                    rw [s4] at hst
                    clear e s3 s4
                    go_wp2_with fail
                    refine hst.mono ?_
                    rintro _ wz ⟨rfl, hgz⟩
                    go_wp2_with fail
                    exact ⟨⟨d + 1, by omega, by simp, by rw [HE.out], HGR.out.trans hgz⟩, by simp [intOf]; omega⟩
                  · have HE : Hid (freeB S' i (d + 1) = freeB S' i d) := by show _ = _; simp [freeB, e, s3, s4]
                    have b3 : ((S' d : Int) == 3) = false := by simp; omega
                    have b4 : ((S' d : Int) == 4) = false := by simp; omega
                    clear e s3 s4
                    generalize S' d = sd at *
                    go_wp2_with fail
                    refine hst.mono ?_
                    rintro _ wz ⟨rfl, hgz⟩
                    go_wp2_with fail
                    exact ⟨⟨d + 1, by omega, by simp, by rw [HE.out], HGR.out.trans hgz⟩, by simp [intOf]; omega⟩
            · have : d = n := by omega
              subst this
              rw [HFR.out]
              have HGR := Lib.hid hgr
              clear hgr
              go_wp2_with fail
              exact ⟨⟨k + 1, o, B, S', T, by omega, by simp, rfl, HR.out.grows HGR.out, HONE.out, HW'.out, HG6.out.trans HGR.out⟩, by simp [intOf]; omega⟩
        · have hb : (bits .and .i64 x 64 != 0) = true := by simp [hp]
          have hgv := Give_any hR3 hin
          rw [h0] at hgv
          simp only [if_pos] at hgv
          clear hR3 hp
          go_wp2_with fail
          refine hgv.mono ?_
          rintro _ w4 ⟨rfl, hR4, hC4⟩
          have htk := Take_any hR4 hin
          rw [updN_same] at htk
          simp only [if_neg (show ¬ (4 = 0) by decide)] at htk
          have HC4 := Lib.hid hC4
          clear hgv hR4 hC4
          go_wp2_with fail
          refine htk.mono ?_
          rintro _ w5 ⟨rfl, hR5, hC5⟩
          have hst := step_4 hR5 hin (updN_same _ _ _)
          have HC5 := Lib.hid (HC4.out.trans hC5)
          clear htk hR5 hC5 HC4
          go_wp2_with fail
          refine hst.mono ?_
          rintro _ w6 ⟨rfl, hR6, hC6⟩
          have HG6 := Lib.hid ((HC5.out.trans hC6).to_grows HG3.out (by have := HQ.out; simp; omega))
          have HR := Lib.hid hR6
          have HONE : Hid (One n (updN (updN S i 4) i 0) T (numB (incB B (16 + 8)) 16) (o + 1) (k + 1)) := by
            show One _ _ _ _ _ _
            rw [numB_incB_other _ _ _ (by omega)]
            exact HO.out.give hin h0
          have HNW : Hid (numB (incB B (16 + 8)) 24 = o + 1) := by
            show _ = _
            rw [show (16 : Nat) + 8 = 24 from rfl, numB_incB, HW'.out, inc64_small (by omega)]
          have e1 : IntKind.u64.wrap ((o : Int) + 1) = ((o + 1 : Nat) : Int) := by rw [wrap_u64_small (by omega) (by omega)]; omega
          have E1 := Lib.hid e1
          generalize updN (updN S i 4) i 0 = S' at *
          generalize incB B (16 + 8) = B' at *
          clear hst hR6 hC6 HG3 h0 HC5 e1
          go_wp2_with fail
          go_loopw [15, 16] (fun f j wq => ∃ d : Nat, d ≤ n ∧ j = .int .i64 d ∧ f = .bool (freeB S' i d) ∧ Grows w6 wq) (fun _ j _ => (n - intOf j).toNat)
          case atStart => exact ⟨0, by omega, rfl, rfl, Grows.refl _⟩
          case round =>
            obtain ⟨d, hd, rfl, rfl, hgr⟩ := hrel
            by_cases hdn : d < n
            · have hst := State_any (HR.out.l.grows hgr) hdn
              have HGR := Lib.hid hgr
              clear hgr
              by_cases e : d = i
              · have eb : ((d : Int) != (i : Int)) = false := by simp; omega
                have HE : Hid (freeB S' i (d + 1) = freeB S' i d) := by show _ = _; simp [freeB, e]
                clear e
                generalize S' d = sd at *
                go_wp2_with fail
                refine hst.mono ?_
                rintro _ wz ⟨rfl, hgz⟩
                go_wp2_with fail
                exact ⟨⟨d + 1, by omega, by simp, by rw [HE.out], HGR.out.trans hgz⟩, by simp [intOf]; omega⟩
              · have eb : ((d : Int) != (i : Int)) = true := by simp; omega
                by_cases s3 : S' d = 3
                · have HE : Hid (freeB S' i (d + 1) = false) := by show _ = _; simp [freeB, e, s3]
                  rw [s3] at hst
                  clear e s3
                  go_wp2_with fail
                  refine hst.mono ?_
                  rintro _ wz ⟨rfl, hgz⟩
                  go_wp2_with fail
                  exact ⟨⟨d + 1, by omega, by simp, by rw [HE.out], HGR.out.trans hgz⟩, by simp [intOf]; omega⟩
                · by_cases s4 : S' d = 4
                  · have HE : Hid (freeB S' i (d + 1) = false) := by show _ = _; simp [freeB, e, s4]
                    rw [s4] at hst
                    clear e s3 s4
                    go_wp2_with fail
                    refine hst.mono ?_
                    rintro _ wz ⟨rfl, hgz⟩
                    go_wp2_with fail
                    exact ⟨⟨d + 1, by omega, by simp, by rw [HE.out], HGR.out.trans hgz⟩, by simp [intOf]; omega⟩
                  · have HE : Hid (freeB S' i (d + 1) = freeB S' i d) := by show _ = _; simp [freeB, e, s3, s4]
                    have b3 : ((S' d : Int) == 3) = false := by simp; omega
                    have b4 : ((S' d : Int) == 4) = false := by simp; omega
                    clear e s3 s4
                    generalize S' d = sd at *
                    go_wp2_with fail
                    refine hst.mono ?_
                    rintro _ wz ⟨rfl, hgz⟩
                    go_wp2_with fail
                    exact ⟨⟨d + 1, by omega, by simp, by rw [HE.out], HGR.out.trans hgz⟩, by simp [intOf]; omega⟩
            · have : d = n := by omega
              subst this
              generalize freeB S' i d = fr at *
              have HGR := Lib.hid hgr
              clear hgr
              go_wp2_with fail
              exact ⟨⟨k + 1, o + 1, B', S', T, by omega, by simp, by simp, HR.out.grows HGR.out, HONE.out, HNW.out, HG6.out.trans HGR.out⟩, by simp [intOf]; omega⟩
    · have : k = m := by omega
      subst this
      go_wp2_with fail
      go_ret
      exact ⟨rfl, hG⟩
end
end Go.Proofs.YtbiadhgkpggdeaaDoor
