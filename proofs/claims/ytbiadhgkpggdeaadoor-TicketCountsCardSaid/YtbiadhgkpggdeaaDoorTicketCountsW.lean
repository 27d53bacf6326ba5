/- The walk of TicketCounts. -/
import Derived.Test.YtbiadhgkpggdeaaDoorTickLaw
namespace Go.Proofs.YtbiadhgkpggdeaaDoor
open Go Go.RowKit
set_option linter.unusedSimpArgs false
set_option linter.unusedVariables false
/-- The other lock turned. -/
theorem Ready.other {w w' : World} {pl p q N A qc n pl' A' qc' n' : Nat} {B B' : Nat → Nat} {S T S' T' : Nat → Nat} (h : Ready w pl p q N A qc n B S T) (h' : Ready w' pl' p q N A' qc' n' B' S' T') (hc : Chg [qc', q] w w') (hp : pl ≠ qc') (hq : qc ≠ qc') : Ready w' pl p q N A qc n B' S T :=
  ⟨h.l.chg hc (by have := h.ne.1; simp; omega) (by have := h.ne.2.1; simp; omega), h'.m, h.a8, h.aN, h.ne, h'.hW, h'.hF, h.gq⟩
theorem Load_num {w : World} {pl p q N A qc n X V : Nat} {B : Nat → Nat} {S T : Nat → Nat} (h : Ready w pl p q N A qc n B S T) (h8 : X % 8 = 0) (hN : X + 8 ≤ N) (hV : numB B X = V) :
    Calls Tryd.prog 13 #[.pointer (some ⟨p, 0, none⟩), .int .u64 X, .int .i64 8] w fun r w' => r = .returned (.tuple #[.int .u64 V, .int .i64 0]) ∧ Grows w w' := by
  have := Load_ok h.hW h.m X 8 rfl h8 hN
  rwa [show loadN (segB B X 8) = V from hV] at this
set_option maxRecDepth 100000 in
set_option maxHeartbeats 4000000 in
theorem counts_law {W : World} (hW : Widths W) (hF : Follows W) (Tm K : Int) :
    Calls Tryd.prog 4 #[.int .i64 Tm, .int .i64 K] W fun r w' => r = .returned (.bool true) ∧ Grows W w' := by
  obtain ⟨n, hn, hn1, hn8⟩ : ∃ n : Nat, wrap64 (1 + bits .and .i64 K 7) = n ∧ 1 ≤ n ∧ n ≤ 8 := by
    have e : bits .and .i64 K 7 = K % 8 := and_mask_i64 (n := 3) (by omega)
    rw [e, wrap64_small (by omega) (by omega)]
    exact ⟨(1 + K % 8).toNat, by omega, by omega, by omega⟩
  obtain ⟨t, htz, ht⟩ : ∃ t : Nat, bits .and .i64 Tm 63 = t ∧ t ≤ 63 := by
    have e : bits .and .i64 Tm 63 = Tm % 64 := and_mask_i64 (n := 6) (by omega)
    rw [e]
    exact ⟨(Tm % 64).toNat, by omega, by omega⟩
  have HN := Lib.hid hn
  have HW := Lib.hid hW
  have HF := Lib.hid hF
  clear hn hW hF
  go_enter Tryd.func4, Tryd.ntmps4
  go_wp2_with fail
  refine (new_ok 1 (by omega) (by omega) _).mono ?_
  rintro _ w1 ⟨p, q, rfl, hM1, hg1, hp, hq, hqp⟩
  have hgW := HW.out.1
  have hgF := HF.out.1
  have hl := tnew_ok (N := 256) (A := 0) (HW.out.grows hg1) (HF.out.grows hg1) (show Mem w1 p q 256 _ from hM1) (by omega) hn1 hn8 rfl (by omega) (by omega)
  go_wp2_with fail
  rw [HN.out]
  refine hl.mono ?_
  rintro _ w2 ⟨pl, qc, rfl, hR2, hC2, hqc, hpl⟩
  have HR2 := Lib.hid hR2
  have HG2 : Hid (Grows W w2) := hC2.to_grows hg1 (by simpa using hq)
  have hl2 := tnew_ok (A := 16) hR2.hW hR2.hF hR2.m (by omega) hn1 hn8 rfl (by omega) (by omega)
  have lpl := hR2.l.lt
  clear hl hM1 hC2 hR2
  go_wp2_with fail
  refine hl2.mono ?_
  rintro _ w3 ⟨plo, qco, rfl, hO3, hC3, hqco, hplo⟩
  have hR3 := HR2.out.mem hO3.m hC3
  have HG3 : Hid (Grows W w3) := hC3.to_grows HG2.out (by simpa using hq)
  have HNE : Hid (plo ≠ qc ∧ qco ≠ qc ∧ pl ≠ qco ∧ qc ≠ qco ∧ W.heap.size ≤ q ∧ W.heap.size ≤ qc ∧ W.heap.size ≤ qco) := Lib.hid (by have := hg1.size; have := HG2.out.size; omega)
  have htk := Take_any hO3 (i := 0) (by omega)
  clear hl2 hC3 HG2 HR2 lpl hqc hpl hqco hplo hg1 hp hq hqp hO3
  go_wp2_with fail
  refine htk.mono ?_
  rintro _ w4 ⟨rfl, hO4, hC4⟩
  simp only [if_pos] at hO4
  have hR4 := hR3.other hO4 hC4 (by have := HNE.out; omega) (by have := HNE.out; omega)
  have HG4 : Hid (Grows W w4) := hC4.to_grows HG3.out (by have := HNE.out; simp; omega)
  have hst := step_1 hO4 (i := 0) (by omega) (updN_same _ _ _)
  clear htk hR3 HG3 hC4 hO4
  go_wp2_with fail
  refine hst.mono ?_
  rintro _ w5 ⟨rfl, hO5, hC5⟩
  have hR5 := hR4.other hO5 hC5 (by have := HNE.out; omega) (by have := HNE.out; omega)
  have HG5 : Hid (Grows W w5) := hC5.to_grows HG4.out (by have := HNE.out; simp; omega)
  have z0 : numB (putB (putB (fun _ => 0) 0 (List.replicate 16 0)) 16 (List.replicate 16 0)) 16 = 0 := numB_zeros _ 16 32 (by omega) 16 (by omega)
  have z1 : numB (putB (putB (fun _ => 0) 0 (List.replicate 16 0)) 16 (List.replicate 16 0)) 24 = 0 := numB_zeros _ 24 32 (by omega) 16 (by omega)
  have y0 : numB (putB (putB (fun _ => 0) 0 (List.replicate 16 0)) 16 (List.replicate 16 0)) 0 = 0 := by
    show loadN (segB _ 0 8) = 0
    rw [segB_congr (C := putB (fun _ => 0) 0 (List.replicate 16 0)) fun i hi => putB_out _ _ _ (by simp; omega)]
    exact numB_zeros _ 0 16 (by omega) 0 (by omega)
  have y1 : numB (putB (putB (fun _ => 0) 0 (List.replicate 16 0)) 16 (List.replicate 16 0)) 8 = 0 := by
    show loadN (segB _ 8 8) = 0
    rw [segB_congr (C := putB (fun _ => 0) 0 (List.replicate 16 0)) fun i hi => putB_out _ _ _ (by simp; omega)]
    exact numB_zeros _ 8 16 (by omega) 0 (by omega)
  generalize putB (putB (fun _ => 0) 0 (List.replicate 16 0)) 16 (List.replicate 16 0) = B0 at *
  rw [z0] at hO5
  have x0 : numB (incB B0 16) 0 = 0 := by rw [numB_incB_other _ _ _ (by omega)]; exact y0
  have x1 : numB (incB B0 16) 8 = 0 := by rw [numB_incB_other _ _ _ (by omega)]; exact y1
  have x2 : numB (incB B0 16) 16 = 1 := by rw [numB_incB, z0]; rfl
  have x3 : numB (incB B0 16) 24 = 0 := by rw [numB_incB_other _ _ _ (by omega)]; exact z1
  generalize incB B0 16 = B1 at *
  have HSo : Hid (updN (updN (fun _ => 0) 0 1) 0 2 0 = 2 ∧ updN (fun _ => 0) 0 0 0 = 0) := ⟨rfl, rfl⟩
  generalize updN (updN (fun _ => 0) 0 1) 0 2 = So at *
  generalize updN (fun _ => 0) 0 0 = To at *
  have HX := Lib.hid (And.intro x0 (And.intro x1 (And.intro x2 x3)))
  clear z0 z1 y0 y1 x0 x1 x2 x3 hst hR4 HG4 hC5 B0
  go_wp2_with fail
  go_loopw [10] (fun i wr => ∃ (k : Nat) (B S T : Nat → Nat), k ≤ t ∧ i = .int .i64 k ∧ Ready wr pl p q 256 0 qc n B S T ∧ Ready wr plo p q 256 16 qco n B So To ∧ (∀ c, c < n → S c = 0) ∧ (numB B 0 = k ∧ numB B 8 = k ∧ numB B 16 = 1 ∧ numB B 24 = 0) ∧ Grows W wr) (fun i _ => (t - intOf i).toNat)
  case atStart => exact ⟨0, B1, _, _, by omega, rfl, hR5, hO5, fun _ _ => rfl, HX.out, HG5.out⟩
  case round =>
    obtain ⟨k, B, S, T, hk, rfl, hR, hO, hS, hB, hG⟩ := hrel
    clear hR5 hO5
    by_cases hlt : k < t
    · obtain ⟨c, hcz, hcn⟩ : ∃ c : Nat, (k : Int) % (n : Int) = c ∧ c < n := ⟨k % n, by rw [Int.natCast_emod], Nat.mod_lt _ hn1⟩
      have htk := Take_any hR hcn
      have h0 := hS c hcn
      rw [h0] at htk
      simp only [if_pos] at htk
      have HO := Lib.hid hO
      have HG := Lib.hid hG
      have HB := Lib.hid hB
      have HS := Lib.hid hS
      clear hR hO hG hB hS h0
      go_wp2_with fail
      refine htk.mono ?_
      rintro _ w6 ⟨rfl, hR6, hC6⟩
      have hst := step_1 hR6 hcn (updN_same _ _ _)
      have HC6 := Lib.hid hC6
      clear htk hR6 hC6
      go_wp2_with fail
      refine hst.mono ?_
      rintro _ w7 ⟨rfl, hR7, hC7⟩
      rw [HB.out.1] at hR7
      have hst2 := step_2 hR7 hcn (updN_same _ _ _)
      rw [numB_incB_other _ _ _ (by omega), show (0 : Nat) + 8 = 8 from rfl, HB.out.2.1, updN_same, if_pos rfl] at hst2
      have HC7 := Lib.hid (HC6.out.trans hC7)
      clear hst hR7 hC7 HC6
      go_wp2_with fail
      refine hst2.mono ?_
      rintro _ w8 ⟨rfl, hR8, hC8⟩
      have hgv := Give_any hR8 hcn
      rw [updN_same] at hgv
      simp only [if_pos] at hgv
      have HC8 := Lib.hid (HC7.out.trans hC8)
      clear hst2 hR8 hC8 HC7
      go_wp2_with fail
      refine hgv.mono ?_
      rintro _ w9 ⟨rfl, hR9, hC9⟩
      have hst4 := step_4 hR9 hcn (updN_same _ _ _)
      have HC9 := Lib.hid (HC8.out.trans hC9)
      clear hgv hR9 hC9 HC8
      go_wp2_with fail
      refine hst4.mono ?_
      rintro _ w10 ⟨rfl, hR10, hC10⟩
      have HC10 := Lib.hid (HC9.out.trans hC10)
      have hO10 := HO.out.other hR10 HC10.out (by have := HNE.out; omega) (by have := HNE.out; omega)
      clear hst4 hC10 HC9
      go_wp2_with fail
      obtain ⟨b0, b1, b2, b3⟩ := HB.out
      have e0 : inc64 k = k + 1 := inc64_small (by omega)
      refine ⟨⟨k + 1, _, _, _, by omega, by simp, hR10, hO10, fun d hd => ?_, ⟨?_, ?_, ?_, ?_⟩, HC10.out.to_grows HG.out (by have := HNE.out; simp; omega)⟩, by simp [intOf]; omega⟩
      · by_cases e : d = c
        · rw [e, updN_same]
        · rw [updN_ne _ _ e, updN_ne _ _ e, updN_ne _ _ e, updN_ne _ _ e, updN_ne _ _ e]; exact HS.out d hd
      · rw [numB_incB_other _ _ _ (by omega), numB_incB, b0, e0]
      · rw [show (0 : Nat) + 8 = 8 from rfl, numB_incB, numB_incB_other _ _ _ (by omega), b1, e0]
      · rw [numB_incB_other _ _ _ (by omega), numB_incB_other _ _ _ (by omega)]; exact b2
      · rw [numB_incB_other _ _ _ (by omega), numB_incB_other _ _ _ (by omega)]; exact b3
    · have : k = t := by omega
      subst this
      have l0 := fun w' (hg : Grows wr w') => Load_num (X := 0) (V := k) (hR.grows hg) rfl (by omega) hB.1
      have l1 := fun w' (hg : Grows wr w') => Load_num (X := 8) (V := k) (hR.grows hg) rfl (by omega) hB.2.1
      have l2 := fun w' (hg : Grows wr w') => Load_num (X := 16) (V := 1) (hR.grows hg) rfl (by omega) hB.2.2.1
      have l3 := fun w' (hg : Grows wr w') => Load_num (X := 24) (V := 0) (hR.grows hg) rfl (by omega) hB.2.2.2
      have ls := fun w' (hg : Grows wr w') => step_2 (hO.grows hg) (i := 0) (by omega) HSo.out.1
      rw [show (16 : Nat) + 8 = 24 from rfl, hB.2.2.2, HSo.out.2] at ls
      simp only [if_pos] at ls
      have HG := Lib.hid hG
      clear hR hO hG hB hS
      go_wp2_with fail
      refine (l0 _ (Grows.refl _)).mono ?_
      rintro _ w6 ⟨rfl, g6⟩
      go_wp2_with fail
      refine (l1 _ g6).mono ?_
      rintro _ w7 ⟨rfl, g7⟩
      go_wp2_with fail
      refine (l2 _ (g6.trans g7)).mono ?_
      rintro _ w8 ⟨rfl, g8⟩
      go_wp2_with fail
      refine (l3 _ ((g6.trans g7).trans g8)).mono ?_
      rintro _ w9 ⟨rfl, g9⟩
      have G9 := Lib.hid (((g6.trans g7).trans g8).trans g9)
      clear g6 g7 g8 g9
      go_wp2_with fail
      refine (ls _ G9.out).mono ?_
      rintro _ w10 ⟨rfl, hO10, hC10⟩
      have e1 : IntKind.u64.wrap (k : Int) = k := wrap_u64_small (by omega) (by omega)
      clear hO10
      have HC10 := Lib.hid hC10
      clear hC10
      go_wp2_with fail
      go_ret
      exact ⟨by simp, HC10.out.to_grows (HG.out.trans G9.out) (by have := HNE.out; simp; omega)⟩
theorem ticketCounts_walk (Tm : Int) (_ : (Lit.int .i64 Tm).wf = true) (K : Int) (_ : (Lit.int .i64 K).wf = true) (W : World) (hT : Widths W) (hF : Follows W) :
    Calls Tryd.prog 4 #[.int .i64 Tm, .int .i64 K] W fun r w' => r = .returned (.bool true) ∧ Grows W w' := counts_law hT hF Tm K
end Go.Proofs.YtbiadhgkpggdeaaDoor
