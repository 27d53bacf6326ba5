/- The walk of TicketTurns. -/
import Derived.Test.YtbiadhgkpggdeaaDoorTurnLaw
namespace Go.Proofs.YtbiadhgkpggdeaaDoor
open Go Go.RowKit
set_option linter.unusedSimpArgs false
set_option linter.unusedVariables false
section
variable {H : Type} {enc : TypeId × Value → H}
theorem pick_at {W : World} {A : Option Addr} {m : Nat} {X : Nat → List Value} (hX : SliceIs2 enc Tryd.prog W [3] A m X) {i : Nat} (hi : i < m) :
    ∃ b o, A = some ⟨b, o, none⟩ ∧ b < W.heap.size ∧ ∃ x : Int, W.cell? ⟨b, o + i, none⟩ = some (.int .i64 x) ∧ -9223372036854775808 ≤ x ∧ x ≤ 9223372036854775807 := by
  obtain ⟨b, o, hA, hb, hL, hc⟩ := hX i hi
  obtain ⟨c0, cs0, e0, l0, hL⟩ := hL.cons
  obtain ⟨x, rfl, hx⟩ := l0.int Tryd.underlying3
  have hxb := bounds_i64 hx
  refine ⟨b, o, hA, hb, x, ?_, by omega, by omega⟩
  have := hc 0 (by decide)
  rw [e0] at this
  simpa using this
/-- Which core is picked. -/
theorem pick_core (x : Int) (n : Nat) (h1 : 1 ≤ n) (h8 : n ≤ 8) : ∃ c : Nat, (wrap64 (x.tmod n + n)).tmod n = c ∧ c < n := by
  have t1 := Int.tmod_lt_of_pos x (b := (n : Int)) (by omega)
  have t2 := Int.lt_tmod_of_pos x (b := (n : Int)) (by omega)
  rw [wrap64_small (by omega) (by omega)]
  refine ⟨((x.tmod n + n).tmod n).toNat, ?_, ?_⟩
  · rw [Int.toNat_of_nonneg (Int.tmod_nonneg _ (by omega))]
  · have := Int.tmod_lt_of_pos (x.tmod n + n) (b := (n : Int)) (by omega)
    omega
/-- What one step makes of Pick. -/
theorem pick_step {n i nx : Nat} {B O S T : Nat → Nat} (hn8 : n ≤ 8) (hin : i < n) (h : Pick n O S T nx) (hx : numB B 0 = nx) (hw : numB B 8 = 0) :
    ∃ O' nx', Pick n O' (updN S i (nxS S T (numB B (0 + 8)) i)) (nxT S T (numB B 0) i) nx' ∧ numB (nxB S 0 B i) 0 = nx' ∧ numB (nxB S 0 B i) 8 = 0 := by
  rcases h.s i hin with e | e | e
  · refine ⟨updN O nx i, nx + 1, ?_, ?_, ?_⟩
    · have := h.take hin e
      simpa [nxS, nxT, e, hx] using this
    · have h1 := h.inv.nx_le
      simp only [nxB, if_pos e]
      rw [numB_incB, inc64_small (by omega), hx]
    · simp only [nxB, if_pos e]
      rw [numB_incB_other _ _ _ (by omega), hw]
  · refine ⟨O, nx, ?_, by simpa [nxB, e] using hx, by simpa [nxB, e] using hw⟩
    by_cases ht : T i = 0
    · have := h.hold hin (Or.inl e) ht
      simpa [nxS, nxT, e, hw, ht] using this
    · have := h.idle (c := i) e
      simpa [nxS, nxT, e, hw, Ne.symm ht, ht] using this
  · refine ⟨O, nx, ?_, by simpa [nxB, e] using hx, by simpa [nxB, e] using hw⟩
    have := h.hold hin (Or.inr e) (h.inv.hold i hin (Or.inl e))
    simpa [nxS, nxT, e] using this
set_option maxRecDepth 100000 in
set_option maxHeartbeats 4000000 in
theorem ticketTurns_walk (W : World) (K : Int) (_ : (Lit.int .i64 K).wf = true) (A : Option Addr) (m c : Nat) (X : Nat → List Value) (hmc : m ≤ c) (hsz : c * 8 < 140737488355328) (hX : SliceIs2 enc Tryd.prog W [3] A m X) (hA : A = none → c = 0) (hW : Widths W) (hF : Follows W) :
    Calls Tryd.prog 3 #[.int .i64 K, .slice A m c] W fun r w' => r = .returned (.bool true) ∧ Grows W w' := by
  have hm : m ≤ 140737488355328 := by omega
  obtain ⟨n, hn, hn1, hn8⟩ : ∃ n : Nat, wrap64 (1 + bits .and .i64 K 7) = n ∧ 1 ≤ n ∧ n ≤ 8 := by
    have e : bits .and .i64 K 7 = K % 8 := and_mask_i64 (n := 3) (by omega)
    rw [e, wrap64_small (by omega) (by omega)]
    exact ⟨(1 + K % 8).toNat, by omega, by omega, by omega⟩
  have HN := Lib.hid hn
  have HW := Lib.hid hW
  have HF := Lib.hid hF
  clear hn hW hF hsz
  go_enter Tryd.func3, Tryd.ntmps3
  go_wp2_with fail
  refine (new_ok 1 (by omega) (by omega) _).mono ?_
  rintro _ w1 ⟨p, q, rfl, hM1, hg1, hp, hq, hqp⟩
  have hgW := HW.out.1
  have hgF := HF.out.1
  have hl := tnew_ok (N := 256) (A := 0) (HW.out.grows hg1) (HF.out.grows hg1) (show Mem w1 p q 256 _ from hM1) (by omega) hn1 hn8 rfl (by omega) (by omega)
  go_wp2_with fail
  rw [HN.out]
  refine hl.mono ?_
  rintro _ w2 ⟨pl, qc, rfl, hR2, hC2, hqc, hpl⟩
  have HG2 : Hid (Grows W w2) := hC2.to_grows hg1 (by simpa using hq)
  have HQ : Hid (W.heap.size ≤ q ∧ W.heap.size ≤ qc) := Lib.hid (by have := hg1.size; omega)
  have z0 : numB (putB (fun _ => 0) 0 (List.replicate 16 0)) 0 = 0 := numB_zeros _ 0 16 (by omega) 0 (by omega)
  have z1 : numB (putB (fun _ => 0) 0 (List.replicate 16 0)) 8 = 0 := numB_zeros _ 8 16 (by omega) 0 (by omega)
  have HZ := Lib.hid (And.intro z0 z1)
  clear z0 z1 hl hM1 hC2 hg1 hp hq hqp hqc hpl
  generalize putB (fun _ => 0) 0 (List.replicate 16 0) = B0 at *
  have HR0 := Lib.hid hR2
  clear hR2
  go_wp2_with fail
  go_loopw [8] (fun i wr => ∃ (k : Nat) (S : Nat → Nat), k ≤ n ∧ i = .int .i64 k ∧ Ready wr pl p q 256 0 qc n B0 S (fun _ => 0) ∧ (∀ c, c < k → S c = 1) ∧ (∀ c, k ≤ c → S c = 0) ∧ Grows W wr) (fun i _ => (n - intOf i).toNat)
  case atStart => exact ⟨0, fun _ => 0, by omega, rfl, HR0.out, fun c hc => absurd hc (by omega), fun _ _ => rfl, HG2.out⟩
  case round =>
    obtain ⟨k, S, hk, rfl, hR, h1, h0, hG⟩ := hrel
    clear HR0 HG2
    by_cases hlt : k < n
    · have htk := Take_any hR hlt
      rw [h0 k (Nat.le_refl _)] at htk
      simp only [if_pos] at htk
      have HH1 := Lib.hid h1
      have HH0 := Lib.hid h0
      have HG := Lib.hid hG
      clear h1 h0 hG hR
      go_wp2_with fail
      refine htk.mono ?_
      rintro _ w4 ⟨rfl, hR4, hC4⟩
      have HG4 := Lib.hid (hC4.to_grows HG.out (by have := HQ.out; simp; omega))
      have HR4 := Lib.hid hR4
      clear htk hC4 hR4
      go_wp2_with fail
      refine ⟨⟨k + 1, updN S k 1, by omega, by simp, HR4.out, fun c hc => ?_, fun c hc => ?_, HG4.out⟩, by simp [intOf]; omega⟩
      · by_cases e : c = k
        · rw [e, updN_same]
        · rw [updN_ne _ _ e]; exact HH1.out c (by omega)
      · rw [updN_ne _ _ (by omega)]; exact HH0.out c (by omega)
    · have : n = k := by omega
      subst this
      have HP : Hid (Pick n (fun _ => 0) S (fun _ => 0) 0) := ⟨Inv.start _ _ h1, fun c hc => Or.inl (h1 c hc)⟩
      have HR0 := Lib.hid hR
      have HG2 := Lib.hid hG
      clear h1 h0 hR hG hlt hk
      go_wp2_with fail
      go_loopw [9] (fun i wr => ∃ (j nx : Nat) (B O S T : Nat → Nat), j ≤ m ∧ i = .int .i64 j ∧ Ready wr pl p q 256 0 qc n B S T ∧ Pick n O S T nx ∧ numB B 0 = nx ∧ numB B 8 = 0 ∧ Grows W wr) (fun i _ => (m - intOf i).toNat)
      case atStart => exact ⟨0, 0, B0, _, _, _, by omega, rfl, HR0.out, HP.out, HZ.out.1, HZ.out.2, HG2.out⟩
      case round =>
        clear HR0 HG2 HP
        obtain ⟨j, nx, B, O, S, T, hj, rfl, hR, hP, hx, hw, hG⟩ := hrel
        by_cases hlt : j < m
        · obtain ⟨b, of, rfl, hb, x, hx', hxb⟩ := pick_at hX hlt
          have cx : wr.cell? ⟨b, of + j, none⟩ = some (.int .i64 x) := by rw [hG.cell hb]; exact hx'
          obtain ⟨i, hi, hin⟩ := pick_core x n hn1 hn8
          have HI := Lib.hid hi
          have hst := step_any hR hin
          have HS := Lib.hid (pick_step hn8 hin hP hx hw)
          have HG := Lib.hid hG
          clear hX hx' hi hx hw hR hP hG
          go_wp2_with fail
          rw [HI.out]
          refine hst.mono ?_
          rintro _ w4 ⟨rfl, hR4, hC4⟩
          have HG4 := Lib.hid (hC4.to_grows HG.out (by have := HQ.out; simp; omega))
          have HR4 := Lib.hid hR4
          clear hst hC4 hR4
          go_wp2_with fail
          obtain ⟨O', nx', hP', hx', hw'⟩ := HS.out
          exact ⟨⟨j + 1, nx', _, O', _, _, by omega, by simp, HR4.out, hP', hx', hw', HG4.out⟩, by simp [intOf]; omega⟩
        · have HH : Hid (Head n O S T (numB B 0) (numB B 8) 0 0) := ⟨by rw [hx, hw]; exact hP.inv, Or.inl rfl⟩
          have HR0 := Lib.hid hR
          have HG2 := Lib.hid hG
          clear hx hw hP hR hG hX
          go_wp2_with fail
          clear hlt hj
          go_loopw [10, 11] (fun hd rr wr => ∃ (h r : Nat) (B O S T : Nat → Nat), r ≤ 3 * n + 3 ∧ hd = .int .i64 h ∧ rr = .int .i64 r ∧ Ready wr pl p q 256 0 qc n B S T ∧ Head n O S T (numB B 0) (numB B 8) h r ∧ Grows W wr) (fun _ i _ => (3 * n + 3 - intOf i).toNat)
          case atStart => exact ⟨0, 0, B, O, S, T, by omega, rfl, rfl, HR0.out, HH.out, HG2.out⟩
          case round =>
            clear HR0 HG2 HH
            obtain ⟨h, r, B, O, S, T, hr, rfl, rfl, hR, hH, hG⟩ := hrel
            by_cases hlt : r < 3 * n + 3
            · have HR0 := Lib.hid hR
              have HG2 := Lib.hid hG
              obtain ⟨w0, s0, hB⟩ : ∃ w0 s0, Inner n O S T (numB B 0) (numB B 8) h r w0 s0 0 := ⟨_, _, hH.begin⟩
              have HB := Lib.hid hB
              clear hR hG hH hB
              go_wp2_with fail
              rw [show decide ((r : Int) < 3 * (n : Int) + 3) = true from by simp; omega]
              go_loopw [10, 12] (fun hd cc wr => ∃ (h c : Nat) (B O S T : Nat → Nat), c ≤ n ∧ hd = .int .i64 h ∧ cc = .int .i64 c ∧ Ready wr pl p q 256 0 qc n B S T ∧ Inner n O S T (numB B 0) (numB B 8) h r w0 s0 c ∧ Grows W wr) (fun _ i _ => (n - intOf i).toNat)
              case atStart => exact ⟨h, 0, B, O, S, T, by omega, rfl, rfl, HR0.out, HB.out, HG2.out⟩
              case round =>
                clear HR0 HG2 HB
                obtain ⟨h, c, B, O, S, T, hc, rfl, rfl, hR, hI, hG⟩ := hrel
                by_cases hlt2 : c < n
                · have HG := Lib.hid hG
                  have HI := Lib.hid hI
                  have hs4 := hI.inv.s c hlt2
                  have hnx := hI.inv.nx_le
                  have hnw := hI.inv.le
                  have hhd := hI.inv.hd_le
                  clear hG hI
                  have : S c = 0 ∨ S c = 1 ∨ S c = 2 ∨ S c = 3 ∨ S c = 4 := by omega
                  rcases this with e | e | e | e | e
                  · have hst := step_0 hR hlt2 e
                    have HN2 := Lib.hid (HI.out.idle hlt2 e (Or.inl e))
                    clear hR e hs4 HI
                    go_wp2_with fail
                    refine hst.mono ?_
                    rintro _ w4 ⟨rfl, hR4, hC4⟩
                    have HG4 := Lib.hid (hC4.to_grows HG.out (by have := HQ.out; simp; omega))
                    have HR4 := Lib.hid hR4
                    clear hst hC4 hR4
                    go_wp2_with fail
                    exact ⟨⟨h, c + 1, _, _, _, _, by omega, rfl, by simp, HR4.out, HN2.out, HG4.out⟩, by simp [intOf]; omega⟩
                  · have hst := step_1 hR hlt2 e
                    have HN2 : Hid (Inner n (updN O (numB B 0) c) (updN S c 2) (updN T c (numB B 0)) (numB (incB B 0) 0) (numB (incB B 0) 8) h r w0 s0 (c + 1)) := by
                      show Inner _ _ _ _ _ _ _ _ _ _ _
                      rw [numB_incB, inc64_small (by omega), numB_incB_other _ _ _ (by omega)]
                      exact HI.out.take hlt2 e
                    clear hR e hs4 HI
                    go_wp2_with fail
                    refine hst.mono ?_
                    rintro _ w4 ⟨rfl, hR4, hC4⟩
                    have HG4 := Lib.hid (hC4.to_grows HG.out (by have := HQ.out; simp; omega))
                    have HR4 := Lib.hid hR4
                    clear hst hC4 hR4
                    go_wp2_with fail
                    exact ⟨⟨h, c + 1, _, _, _, _, by omega, rfl, by simp, HR4.out, HN2.out, HG4.out⟩, by simp [intOf]; omega⟩
                  · have hst := step_2 hR hlt2 e
                    by_cases ht : T c = numB B 8
                    · rw [if_pos (show numB B (0 + 8) = T c from ht.symm), if_pos (show numB B (0 + 8) = T c from ht.symm)] at hst
                      have HN2 := Lib.hid (HI.out.serve hlt2 (Or.inl e) ht)
                      clear hR e ht hs4 HI
                      go_wp2_with fail
                      refine hst.mono ?_
                      rintro _ w4 ⟨rfl, hR4, hC4⟩
                      have hgv := Give_any hR4 hlt2
                      rw [updN_same] at hgv
                      simp only [if_pos] at hgv
                      have HC4 := Lib.hid hC4
                      clear hst hC4 hR4
                      go_wp2_with fail
                      refine hgv.mono ?_
                      rintro _ w5 ⟨rfl, hR5, hC5⟩
                      have HG4 := Lib.hid ((HC4.out.trans hC5).to_grows HG.out (by have := HQ.out; simp; omega))
                      have HR4 := Lib.hid hR5
                      clear hgv hC5 hR5
                      go_wp2_with fail
                      exact ⟨⟨h + 1, c + 1, _, _, _, _, by omega, by simp, by simp, HR4.out, HN2.out, HG4.out⟩, by simp [intOf]; omega⟩
                    · rw [if_neg (show ¬ numB B (0 + 8) = T c from fun h => ht h.symm), if_neg (show ¬ numB B (0 + 8) = T c from fun h => ht h.symm)] at hst
                      have HN2 := Lib.hid (HI.out.idle hlt2 e (Or.inr ⟨e, ht⟩))
                      clear hR e ht hs4 HI
                      go_wp2_with fail
                      refine hst.mono ?_
                      rintro _ w4 ⟨rfl, hR4, hC4⟩
                      have HG4 := Lib.hid (hC4.to_grows HG.out (by have := HQ.out; simp; omega))
                      have HR4 := Lib.hid hR4
                      clear hst hC4 hR4
                      go_wp2_with fail
                      exact ⟨⟨h, c + 1, _, _, _, _, by omega, rfl, by simp, HR4.out, HN2.out, HG4.out⟩, by simp [intOf]; omega⟩
                  · have hst := step_3 hR hlt2 e
                    have HN2 := Lib.hid (HI.out.serve hlt2 (Or.inr e) (HI.out.inv.hold c hlt2 (Or.inl e)))
                    clear hR e hs4 HI
                    go_wp2_with fail
                    refine hst.mono ?_
                    rintro _ w4 ⟨rfl, hR4, hC4⟩
                    have hgv := Give_any hR4 hlt2
                    rw [updN_same] at hgv
                    simp only [if_pos] at hgv
                    have HC4 := Lib.hid hC4
                    clear hst hC4 hR4
                    go_wp2_with fail
                    refine hgv.mono ?_
                    rintro _ w5 ⟨rfl, hR5, hC5⟩
                    have HG4 := Lib.hid ((HC4.out.trans hC5).to_grows HG.out (by have := HQ.out; simp; omega))
                    have HR4 := Lib.hid hR5
                    clear hgv hC5 hR5
                    go_wp2_with fail
                    exact ⟨⟨h + 1, c + 1, _, _, _, _, by omega, by simp, by simp, HR4.out, HN2.out, HG4.out⟩, by simp [intOf]; omega⟩
                  · have hst := step_4 hR hlt2 e
                    have HN2 : Hid (Inner n O (updN S c 0) T (numB (incB B (0 + 8)) 0) (numB (incB B (0 + 8)) 8) h r w0 s0 (c + 1)) := by
                      show Inner _ _ _ _ _ _ _ _ _ _ _
                      rw [show (0 : Nat) + 8 = 8 from rfl, numB_incB, inc64_small (by omega), numB_incB_other _ _ _ (by omega)]
                      exact HI.out.free hlt2 e
                    clear hR e hs4 HI
                    go_wp2_with fail
                    refine hst.mono ?_
                    rintro _ w4 ⟨rfl, hR4, hC4⟩
                    have HG4 := Lib.hid (hC4.to_grows HG.out (by have := HQ.out; simp; omega))
                    have HR4 := Lib.hid hR4
                    clear hst hC4 hR4
                    go_wp2_with fail
                    exact ⟨⟨h, c + 1, _, _, _, _, by omega, rfl, by simp, HR4.out, HN2.out, HG4.out⟩, by simp [intOf]; omega⟩
                · have : n = c := by omega
                  subst this
                  have HN2 := Lib.hid (hI.ends hn1)
                  have HR5 := Lib.hid hR
                  have HG5 := Lib.hid hG
                  clear hR hG hI
                  go_wp2_with fail
                  exact ⟨⟨h, r + 1, B, O, S, T, by omega, rfl, by simp, HR5.out, HN2.out, HG5.out⟩, by simp [intOf]; omega⟩
            · have hh := hH.all hn1 (show r = 3 * n + 3 by omega)
              subst hh
              clear hH hR
              go_wp2_with fail
              go_ret
              exact ⟨rfl, hG⟩
end
end Go.Proofs.YtbiadhgkpggdeaaDoor
