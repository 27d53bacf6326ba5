/- The walk of TicketPlays. -/
import Derived.Test.YtbiadhgkpggdeaaDoorTickDuo
import Derived.Deep.DeepCutAuto
import Derived.Deep.CutBlock
namespace Go.Proofs.YtbiadhgkpggdeaaDoor
open Go Go.RowKit
set_option linter.unusedSimpArgs false
set_option linter.unusedVariables false
theorem names_any (w : World) : Calls Tryd.prog 16 #[] w fun r w' => r = .returned (.bool true) ∧ w' = w := by
  go_enter Tryd.func16, Tryd.ntmps16
  go_wp2_with fail
  go_ret
  exact ⟨rfl, rfl⟩
theorem conv_bts {w : World} {b k c : Nat} {C : Nat → Nat} (h : Bts w b k C) : (convert 44 9 (.slice (some ⟨b, 0, none⟩) k c)).run Tryd.prog w = .ok (.string (strB (segB C 0 k))) w :=
  conv_bytes (segB_length _ _ _) (segB_bytes h 0 k (by omega))
section
variable {H : Type} {enc : TypeId × Value → H}
abbrev actT : List TypeId := [3, 3, 30]
theorem act_at {W : World} {A : Option Addr} {n : Nat} {X : Nat → List Value} (hX : SliceIs2 enc Tryd.prog W actT A n X) {i : Nat} (hi : i < n) :
    ∃ b o, A = some ⟨b, o, none⟩ ∧ b < W.heap.size ∧ ∃ (K C : Int) (V : Nat), V < 18446744073709551616 ∧ -9223372036854775808 ≤ C ∧ C ≤ 9223372036854775807 ∧
      W.cell? ⟨b, o + i * 3, none⟩ = some (.int .i64 K) ∧ W.cell? ⟨b, o + i * 3 + 1, none⟩ = some (.int .i64 C) ∧ W.cell? ⟨b, o + i * 3 + 2, none⟩ = some (.int .u64 V) := by
  obtain ⟨b, o, hA, hb, hL, hc⟩ := hX i hi
  obtain ⟨c0, cs0, e0, l0, hL⟩ := hL.cons
  obtain ⟨c1, cs1, rfl, l1, hL⟩ := hL.cons
  obtain ⟨c2, cs2, rfl, l2, hL⟩ := hL.cons
  obtain ⟨K, rfl, _⟩ := l0.int Tryd.underlying3
  obtain ⟨C, rfl, hC⟩ := l1.int Tryd.underlying3
  obtain ⟨V, rfl, hV⟩ := l2.int Tryd.underlying30
  have bC := bounds_i64 hC
  have bV := bounds_u64 hV
  obtain ⟨V, rfl⟩ := Int.eq_ofNat_of_zero_le (show 0 ≤ V by omega)
  rw [e0] at hc
  exact ⟨b, o, hA, hb, K, C, V, by omega, by omega, by omega, hc 0 (by decide), by have := hc 1 (by decide); rwa [← Nat.add_assoc] at this, by have := hc 2 (by decide); rwa [← Nat.add_assoc] at this⟩
theorem act_cells {w : World} {b : Nat} {K C V : Value} {t : TypeId} (h : Row w b #[K, C, V] t) : w.cell? ⟨b, 0, none⟩ = some K ∧ w.cell? ⟨b, 1, none⟩ = some C ∧ w.cell? ⟨b, 2, none⟩ = some V := ⟨h.cell 0, h.cell 1, h.cell 2⟩
theorem duo_grows {W w5 w6 w7 : World} {q qc qs qt rq : Nat} (hg : Grows W w5) (h1 : Chg [qc, q] w5 w6) (h2 : Chg [qs, qt, rq] w6 w7) (h : W.heap.size ≤ q ∧ W.heap.size ≤ qc ∧ W.heap.size ≤ qs ∧ W.heap.size ≤ qt ∧ W.heap.size ≤ rq) : Grows W w7 :=
  h2.to_grows (h1.to_grows hg (by simp; omega)) (by simp; omega)
set_option maxRecDepth 100000 in
set_option maxHeartbeats 4000000 in
theorem ticketPlays_walk (W : World) (a0 : Int) (wf0 : (Lit.int .u64 a0).wf = true) (a1 : Int) (wf1 : (Lit.int .i64 a1).wf = true) (A : Option Addr) (m c : Nat) (X : Nat → List Value) (hmc : m ≤ c) (hsz : c * 24 < 140737488355328) (hX : SliceIs2 enc Tryd.prog W actT A m X) (hA : A = none → c = 0) (hW : Widths W) (hF : Follows W) :
    Calls Tryd.prog 6 #[.int .u64 a0, .int .i64 a1, .slice A m c] W fun r w' => r = .returned (.bool true) ∧ Grows W w' := by
  have hm : m ≤ 140737488355328 := by omega
  have hb0 := bounds_u64 wf0
  obtain ⟨L, rfl⟩ := Int.eq_ofNat_of_zero_le (show 0 ≤ a0 by omega)
  have hL64 : L < 18446744073709551616 := by omega
  have HW := Lib.hid hW
  have HF := Lib.hid hF
  clear hW hF hsz wf0 wf1 hb0
  go_enter Tryd.func6, Tryd.ntmps6
  go_wp2_with fail
  refine (new_ok 2 (by omega) (by omega) _).mono ?_
  rintro _ w1 ⟨p, q, rfl, hM1, hg1, hp, hq, hqp⟩
  go_wp2_with fail
  refine (rnew_ok 2 (by omega) (by omega) _).mono ?_
  rintro _ w2 ⟨rp, rq, rfl, hR2, hg2, hrp, hrq, hrqp⟩
  go_wp2_with fail
  refine (names_any _).mono ?_
  rintro _ _ ⟨rfl, hw⟩
  rw [hw]
  clear hw
  have hM2 : Mem w2 p q 512 (fun _ => 0) := MemAt.grows (show Mem w1 p q 512 _ from hM1) hg2
  have hR2' : RMem w2 rp rq 512 (fun _ => 0) := hR2
  have hs1 := hg1.size
  have hs2 := hg2.size
  have hpl := hM1.plt
  have hrpl := hR2.plt
  have hrql := hR2.qlt
  have hql := hM1.qlt
  have HG2 := Lib.hid (hg1.trans hg2)
  have hgW := HW.out.1
  have hgF := HF.out.1
  by_cases he : lockE 512 L a1 = 0
  · obtain ⟨n, rfl, hn1, hn8⟩ : ∃ n : Nat, a1 = n ∧ 1 ≤ n ∧ n ≤ 8 := ⟨a1.toNat, by unfold lockE at he; split at he <;> omega, by unfold lockE at he; split at he <;> omega, by unfold lockE at he; split at he <;> omega⟩
    have hL8 : L % 8 = 0 := by unfold lockE at he; rw [if_neg (by omega)] at he; split at he <;> omega
    have hLN : L + 16 ≤ 512 := by unfold lockE at he; rw [if_neg (by omega), if_neg (by omega)] at he; split at he <;> omega
    have hl := tnew_ok (N := 512) (HW.out.grows HG2.out) (HF.out.grows HG2.out) hM2 (by omega) hn1 hn8 hL8 hLN (by omega)
    clear he hL8
    go_wp2_with fail
    refine hl.mono ?_
    rintro _ w3 ⟨pl, qc, rfl, hR3, hC3, hqc, hplq⟩
    have hs3 := hC3.size
    have hrn := rlnew_ok (N := 512) (hR2'.chg hC3 (by simp; omega) (by simp; omega)) (by omega) hn1 hn8 hR3.a8 hLN
    have hlt3 := hR3.l.lt
    clear hl
    go_wp2_with fail
    refine hrn.mono ?_
    rintro _ w4 ⟨rl, qs, qt, rfl, hR4, hC4, hqs, hqt, hrl⟩
    have hs4 := hC4.size
    have ha : Apart pl p q qc rl rp rq qs qt := ⟨by simp; omega, by simp; omega, by simp; omega⟩
    have hd : Duo w4 pl p q qc rl rp rq qs qt 512 L n (putB (fun _ => 0) L (List.replicate 16 0)) (fun _ => 0) (fun _ => 0) := ⟨hR3.chg hC4 (by simp; omega) (by simp; omega), hR4⟩
    have HA := Lib.hid ha
    have HD0 := Lib.hid hd
    have HG4 : Hid (Grows W w4) := by
      show Grows _ _
      exact Chg.to_grows (S := [q, rq]) (((hC3.weaken (by simp)).trans (hC4.weaken (by simp)))) HG2.out (by simp; omega)
    have HQ : Hid (W.heap.size ≤ q ∧ W.heap.size ≤ qc ∧ W.heap.size ≤ qs ∧ W.heap.size ≤ qt ∧ W.heap.size ≤ rq) := Lib.hid (by omega)
    clear hrn hR3 hC3 hR4 hC4 ha hd hM1 hM2 hR2 hR2' hg1 hg2 hp hq hqp hrp hrq hrqp hs1 hs2 hs3 hs4 hpl hql hrpl hrql hqc hplq hlt3 hqs hqt hrl hgW hgF HG2
    go_wp2_with fail
    go_loopw [14] (fun i wr => ∃ (k : Nat) (B S T : Nat → Nat), k ≤ m ∧ i = .int .i64 k ∧ Duo wr pl p q qc rl rp rq qs qt 512 L n B S T ∧ Grows W wr) (fun i _ => (m - intOf i).toNat)
    case atStart => exact ⟨0, _, _, _, by omega, rfl, HD0.out, HG4.out⟩
    case round =>
      clear HD0 HG4
      obtain ⟨k, B, S, T, hk, rfl, hD, hG⟩ := hrel
      by_cases hlt : k < m
      · obtain ⟨b, o, rfl, hb, K, C, V, hV64, hC1, hC2, d0, d1, d2⟩ := act_at hX hlt
        have c0 := (hG.cell hb).trans d0
        have c1 := (hG.cell hb).trans d1
        have c2 := (hG.cell hb).trans d2
        have HD := Lib.hid hD
        have HG := Lib.hid hG
        clear hX d0 d1 d2 hD hG
        go_upto_block 2 with fail
        obtain ⟨w5, hw5⟩ : ∃ w5, w5 = wr.alloc (.cells #[.int .i64 K, .int .i64 C, .int .u64 V] 57) := ⟨_, rfl⟩
        obtain ⟨ba, hba⟩ : ∃ ba, ba = wr.heap.size := ⟨_, rfl⟩
        have hr5 : Row w5 ba #[.int .i64 K, .int .i64 C, .int .u64 V] 57 := by rw [hw5, hba]; exact Row.new _ _ _
        have hg5 : Grows wr w5 := by rw [hw5]; exact (Grows.refl _).alloc _
        rw [← hw5, ← hba]
        have HB : Hid (ba ∉ [qc, q] ∧ ba ∉ [qs, qt, rq]) := by
          show _ ∧ _
          have h1 := HD.out.l.m.qlt
          have h2 := HD.out.l.l.cr.lt
          have h3 := HD.out.r.st.lt
          have h4 := HD.out.r.tk.lt
          have h5 := HD.out.r.m.qlt
          rw [hba]
          exact ⟨by simp; omega, by simp; omega⟩
        have HR := Lib.hid hr5
        have HD5 := Lib.hid (HD.out.grows hg5)
        have HG5 := Lib.hid (HG.out.trans hg5)
        clear hw5 hba hr5 hg5 HD HG c0 c1 c2
        go_cut [16, 17, 18, 19] (fun s16 s17 s18 s19 wx => ∃ B S T Wc, Wc = wx ∧ Duo wx pl p q qc rl rp rq qs qt 512 L n B S T ∧ Row wx ba #[.int .i64 K, .int .i64 C, .int .u64 V] 57 ∧ Grows W wx)
        case first =>
          obtain ⟨e0, e1, e2⟩ := act_cells HR.out
          by_cases k0 : K = 0
          · subst k0
            go_wp2_with fail
            clear e0 e1 e2
            go_region_held3 (fun w' => w'.cell? ⟨ba, 1, none⟩ = some (.int .i64 C)) (first
              | exact (act_cells HR2.out).2.1
              | exact (act_cells HR1.out).2.1
              | exact (act_cells HR.out).2.1)
              (first
              | (go_at_call 10; refine (Take_all (HD5.out.grows ((Grows.refl _).drew)).l C).mono ?_; rintro _ w6 ⟨rfl, hR6, hC6⟩
                 have HR1 := Lib.hid ((HR.out.grows ((Grows.refl _).drew)).chg hC6 HB.out.1)
                 have HH6 := Lib.hid ((HD5.out.grows ((Grows.refl _).drew)).half HA.out hC6)
                 have HR6 := Lib.hid hR6
                 have HC6 := Lib.hid hC6
                 clear hR6 hC6)
              | (go_at_call 18; refine (Set_all HH6.out C 0 1).mono ?_; rintro _ w7 ⟨rfl, hR7, hC7⟩
                 have HR2 := Lib.hid (HR1.out.chg hC7 HB.out.2)
                 have HD7 := Lib.hid (duo_next HA.out HR6.out hR7 hC7)
                 have HG7 := Lib.hid (duo_grows (HG5.out.drew) HC6.out hC7 HQ.out)
                 clear hR7 hC7))
            clear HR6 HC6 HH6 HR1 HR HD5 HG5 HB
            generalize setE S n C 0 = e at *
            go_wp2_with fail
            go_meet
            exact ⟨_, _, _, _, rfl, HD7.out, HR2.out, HG7.out⟩
          by_cases k1 : K = 1
          · subst k1
            go_wp2_with fail
            clear e0 e1 e2
            go_region_held3 (fun w' => w'.cell? ⟨ba, 1, none⟩ = some (.int .i64 C)) (first
              | exact (act_cells HR2.out).2.1
              | exact (act_cells HR1.out).2.1
              | exact (act_cells HR.out).2.1)
              (first
              | (go_at_call 12; refine (Give_all (HD5.out.grows ((Grows.refl _).drew)).l C).mono ?_; rintro _ w6 ⟨rfl, hR6, hC6⟩
                 have HR1 := Lib.hid ((HR.out.grows ((Grows.refl _).drew)).chg hC6 HB.out.1)
                 have HH6 := Lib.hid ((HD5.out.grows ((Grows.refl _).drew)).half HA.out hC6)
                 have HR6 := Lib.hid hR6
                 have HC6 := Lib.hid hC6
                 clear hR6 hC6)
              | (go_at_call 18; refine (Set_all HH6.out C 3 4).mono ?_; rintro _ w7 ⟨rfl, hR7, hC7⟩
                 have HR2 := Lib.hid (HR1.out.chg hC7 HB.out.2)
                 have HD7 := Lib.hid (duo_next HA.out HR6.out hR7 hC7)
                 have HG7 := Lib.hid (duo_grows (HG5.out.drew) HC6.out hC7 HQ.out)
                 clear hR7 hC7))
            clear HR6 HC6 HH6 HR1 HR HD5 HG5 HB
            generalize setE S n C 3 = e at *
            go_wp2_with fail
            go_meet
            exact ⟨_, _, _, _, rfl, HD7.out, HR2.out, HG7.out⟩
          by_cases k2 : K = 2
          · subst k2
            go_wp2_with fail
            clear e0 e1 e2
            refine (Step_all HD5.out.l C).mono ?_
            rintro _ w6 ⟨rfl, hR6, hC6⟩
            have HR1 := Lib.hid (HR.out.chg hC6 HB.out.1)
            have HH6 := Lib.hid (HD5.out.half HA.out hC6)
            have HR6 := Lib.hid hR6
            have HC6 := Lib.hid hC6
            have hrs := rStep_all HH6.out HD5.out.l.l.hS C
            obtain ⟨e0, e1, e2⟩ := act_cells HR1.out
            clear hR6 hC6
            generalize stepV S T n (numB B (L + 8)) C = sv at *
            generalize stepE n C = se at *
            generalize stepS S T n (numB B (L + 8)) C = S6 at *
            generalize stepT S T n (numB B L) C = T6 at *
            generalize stepB S n L B C = B6 at *
            go_wp2_with fail
            refine hrs.mono ?_
            rintro _ w7 ⟨rfl, hR7, hC7⟩
            have HR2 := Lib.hid (HR1.out.chg hC7 HB.out.2)
            have HD7 := Lib.hid (duo_next HA.out HR6.out hR7 hC7)
            have HG7 := Lib.hid (duo_grows HG5.out HC6.out hC7 HQ.out)
            clear hR7 hC7 hrs e0 e1 e2
            clear HR6 HC6 HH6 HR1 HR HD5 HG5 HB
            go_wp2_with fail
            go_meet
            exact ⟨_, _, _, _, rfl, HD7.out, HR2.out, HG7.out⟩
          by_cases k3 : K = 3
          · subst k3
            have eb : bits .and .i64 C 1 = C % 2 := and_mask_i64 (n := 1) (by omega)
            by_cases hp : C % 2 = 0
            · have hb0 : bits .and .i64 C 1 = 0 := by rw [eb]; exact hp
              clear eb hp
              go_wp2_with fail
              clear e0 e1 e2
              refine (Store_ok HD5.out.l.hW HD5.out.l.m L 8 V rfl (by have := HD5.out.l.a8; omega) (by omega)).mono ?_
              rintro _ w6 ⟨rfl, hM6, hC6⟩
              have HR6 := Lib.hid (HD5.out.l.mem hM6 hC6)
              have HC6 : Hid (Chg [qc, q] w5 w6) := hC6.weaken (by simp)
              have HR1 := Lib.hid (HR.out.chg HC6.out HB.out.1)
              have HH6 := Lib.hid (HD5.out.half HA.out HC6.out)
              have hrs := rStore_ok HH6.out.m L 8 V rfl (by have := HD5.out.l.a8; omega) (by omega)
              obtain ⟨e0, e1, e2⟩ := act_cells HR1.out
              clear hM6 hC6
              generalize putB B L (leB V 8) = B6 at *
              go_wp2_with fail
              refine hrs.mono ?_
              rintro _ w7 ⟨rfl, hM7, hC7⟩
              have HC7 : Hid (Chg [qs, qt, rq] w6 w7) := hC7.weaken (by simp)
              have HR2 := Lib.hid (HR1.out.chg HC7.out HB.out.2)
              have HD7 := Lib.hid (duo_next HA.out HR6.out (HH6.out.mem hM7 hC7) HC7.out)
              have HG7 := Lib.hid (duo_grows HG5.out HC6.out HC7.out HQ.out)
              clear hM7 hC7 hrs e0 e1 e2
              clear HR6 HC6 HC7 HH6 HR1 HR HD5 HG5 HB
              go_wp2_with fail
              go_meet
              exact ⟨_, _, _, _, rfl, HD7.out, HR2.out, HG7.out⟩
            · have hb1 : bits .and .i64 C 1 = 1 := by rw [eb]; omega
              have e8 : IntKind.u64.wrap ((L : Int) + 8) = ((L + 8 : Nat) : Int) := by rw [wrap_u64_small (by omega) (by omega)]; omega
              clear eb hp
              go_wp2_with fail
              rw [show (L : Int) + 8 = ((L + 8 : Nat) : Int) by omega]
              clear e0 e1 e2
              refine (Store_ok HD5.out.l.hW HD5.out.l.m (L + 8) 8 V rfl (by have := HD5.out.l.a8; omega) (by omega)).mono ?_
              rintro _ w6 ⟨rfl, hM6, hC6⟩
              have HR6 := Lib.hid (HD5.out.l.mem hM6 hC6)
              have HC6 : Hid (Chg [qc, q] w5 w6) := hC6.weaken (by simp)
              have HR1 := Lib.hid (HR.out.chg HC6.out HB.out.1)
              have HH6 := Lib.hid (HD5.out.half HA.out HC6.out)
              have hrs := rStore_ok HH6.out.m (L + 8) 8 V rfl (by have := HD5.out.l.a8; omega) (by omega)
              obtain ⟨e0, e1, e2⟩ := act_cells HR1.out
              clear hM6 hC6
              generalize putB B (L + 8) (leB V 8) = B6 at *
              go_wp2_with fail
              refine hrs.mono ?_
              rintro _ w7 ⟨rfl, hM7, hC7⟩
              have HC7 : Hid (Chg [qs, qt, rq] w6 w7) := hC7.weaken (by simp)
              have HR2 := Lib.hid (HR1.out.chg HC7.out HB.out.2)
              have HD7 := Lib.hid (duo_next HA.out HR6.out (HH6.out.mem hM7 hC7) HC7.out)
              have HG7 := Lib.hid (duo_grows HG5.out HC6.out HC7.out HQ.out)
              clear hM7 hC7 hrs e0 e1 e2
              clear HR6 HC6 HC7 HH6 HR1 HR HD5 HG5 HB
              go_wp2_with fail
              go_meet
              exact ⟨_, _, _, _, rfl, HD7.out, HR2.out, HG7.out⟩
          · have q0 : (K == 0) = false := by simp; exact k0
            have q1 : (K == 1) = false := by simp; exact k1
            have q2 : (K == 2) = false := by simp; exact k2
            have q3 : (K == 3) = false := by simp; exact k3
            clear k0 k1 k2 k3
            go_wp2_with fail
            go_meet
            exact ⟨_, _, _, _, rfl, HD5.out, HR.out, HG5.out⟩
        case rest =>
          obtain ⟨B7, S7, T7, W7, hW7, hD7, hR7, hG7⟩ := hcut
          clear HD5 HR HG5 HB
          rw [← hW7] at hD7 hR7 hG7
          have HDZ := Lib.hid hD7
          have HRZ := Lib.hid hR7
          have HGZ := Lib.hid hG7
          subst hW7
          clear hD7 hR7 hG7
          have hst := State_all HDZ.out.l.l C
          by_cases hC : outC n C
          · simp only [if_pos hC] at hst
            have HCD : Hid ((!decide (outC n C)) = false) := by show _ = _; rw [decide_eq_true hC]; rfl
            clear hC
            have HST := Lib.hid hst
            obtain ⟨e0, e1, e2⟩ := act_cells HRZ.out
            clear hst
            first
            | refine HST.out.mono ?_
            | (go_wp2_with fail; refine HST.out.mono ?_)
            rintro _ w9 ⟨rfl, hg9⟩
            have HD9 := Lib.hid (HDZ.out.grows hg9)
            have HR9 := Lib.hid (HRZ.out.grows hg9)
            have HG9 := Lib.hid (HGZ.out.trans hg9)
            clear e0 e1 e2 hg9 HST HDZ HRZ HGZ
            obtain ⟨e0, e1, e2⟩ := act_cells HR9.out
            have lb := HR9.out.lt
            have hhs : ∀ g, Calls Tryd.prog 22 #[.pointer (some ⟨rl, 0, none⟩), .int .i64 C] (w9.grow g) fun r w' => r = .returned (.bool false) ∧ ∃ h, w' = w9.grow h := fun g => by
              have := Has_all HD9.out.r C g
              rwa [HCD.out] at this
            go_wp2_with fail
            refine wp_region_grow (by kernel_rfl) (by kernel_rfl) ?_
            repeat (go_big_quiet_step ((go_at_call 22 <;> exact hhs _)))
            refine wpQuiet_nil ?_
            intro _ hw'
            obtain ⟨gg, rfl⟩ := hw'
            have hD10 := HD9.out.grows (Grows.of w9 gg)
            have hG10 := HG9.out.trans (Grows.of w9 gg)
            go_wp2_with fail
            go_roundw
            case measure => simp [intOf]; omega
            case rel => exact ⟨k + 1, _, _, _, by omega, by simp, hD10, hG10⟩
          · obtain ⟨i, rfl, hi⟩ := inC hC
            simp only [if_neg hC, Int.toNat_natCast] at hst
            have HCD : Hid ((!decide (outC n (i : Int))) = true) := by show _ = _; rw [decide_eq_false hC]; rfl
            clear hC hC1 hC2
            have HST := Lib.hid hst
            obtain ⟨e0, e1, e2⟩ := act_cells HRZ.out
            clear hst
            first
            | refine HST.out.mono ?_
            | (go_wp2_with fail; refine HST.out.mono ?_)
            rintro _ w9 ⟨rfl, hg9⟩
            have HD9 := Lib.hid (HDZ.out.grows hg9)
            have HR9 := Lib.hid (HRZ.out.grows hg9)
            have HG9 := Lib.hid (HGZ.out.trans hg9)
            clear e0 e1 e2 hg9 HST HDZ HRZ HGZ
            obtain ⟨e0, e1, e2⟩ := act_cells HR9.out
            have lb := HR9.out.lt
            have hhs : ∀ g, Calls Tryd.prog 22 #[.pointer (some ⟨rl, 0, none⟩), .int .i64 (i : Int)] (w9.grow g) fun r w' => r = .returned (.bool true) ∧ ∃ h, w' = w9.grow h := fun g => by
              have := Has_all HD9.out.r (i : Int) g
              rwa [HCD.out] at this
            obtain ⟨c0, c1, c2, c3⟩ := HD9.out.r.cells
            have l1 := HD9.out.r.hd.lt
            have l2 := HD9.out.r.st.lt
            have l3 := HD9.out.r.tk.lt
            have c4 := HD9.out.r.st.cell hi
            have c5 := HD9.out.r.tk.cell hi
            generalize S7 i = s7 at *
            generalize T7 i = t7 at *
            go_wp2_with fail
            refine wp_region_grow (by kernel_rfl) (by kernel_rfl) ?_
            repeat (go_big_quiet_step ((go_at_call 22 <;> exact hhs _)))
            refine wpQuiet_nil ?_
            intro _ hw'
            obtain ⟨gg, rfl⟩ := hw'
            have hD10 := HD9.out.grows (Grows.of w9 gg)
            have hG10 := HG9.out.trans (Grows.of w9 gg)
            go_wp2_with fail
            go_roundw
            case measure => simp [intOf]; omega
            case rel => exact ⟨k + 1, _, _, _, by omega, by simp, hD10, hG10⟩
      · have : k = m := by omega
        subst this
        clear hX
        have h1 := Bytes_ok hD.l.m 0 512 (by omega)
        obtain ⟨cR, r1, r2, r3⟩ := hD.r.m.hd
        go_wp2_with fail
        refine h1.mono ?_
        rintro _ w5 ⟨v, rfl, b1, c1, rfl, s1, s2, hg5, hb1, hB1⟩
        have cr5 : w5.cell? ⟨rp, 0, none⟩ = some (.slice (some ⟨rq, 0, none⟩) 512 cR) := (r3.grows hg5).cell 0
        have q1 : (convert 44 9 (.slice (some ⟨b1, 0, none⟩) 512 c1)).run Tryd.prog w5.drew = .ok (.string (strB (segB B 0 512))) w5.drew := conv_bts ((hB1.congr (C := B) (fun i _ => by rw [Nat.zero_add])).grows ((Grows.refl _).drew))
        have q2 : (convert 44 9 (.slice (some ⟨rq, 0, none⟩) 512 cR)).run Tryd.prog w5.drew = .ok (.string (strB (segB B 0 512))) w5.drew := conv_bts (hD.r.m.grows (hg5.drew)).bts
        generalize strB (segB B 0 512) = S1 at *
        have HG5 := Lib.hid (hG.trans hg5)
        clear hD hG h1 hg5 hB1 r3
        go_wp2_with fail
        go_region
        all_goals
          go_wp2_with fail
          go_ret
          exact ⟨by simp, by first | exact HG5.out | exact HG5.out.drew⟩
  · have hl := tnew_bad hM2 (by omega) hL64 he
    have hrn := fun w3 (hg : Grows w2 w3) => rlnew_bad (c := a1) (hR2'.grows hg) (by omega) he
    have hb : (lockE 512 L a1 != 0) = true := by simp; exact he
    generalize lockE 512 L a1 = e at *
    have HM := Lib.hid hM2
    have HR := Lib.hid hR2'
    clear hM1 hM2 hR2 hR2' hg1 hg2 hp hq hqp hrp hrq hrqp hs1 hs2 hpl hql hrpl hrql hgW hgF he hb
    go_wp2_with fail
    refine hl.mono ?_
    rintro _ w3 ⟨rfl, hg3⟩
    have hrn := hrn _ hg3
    have HG3 := Lib.hid hg3
    clear hl hg3
    go_wp2_with fail
    refine hrn.mono ?_
    rintro _ _ ⟨rfl, hw⟩
    rw [hw]
    clear hw hrn
    go_wp2_with fail
    go_loopw [14] (fun i wr => i = .int .i64 0 ∧ wr = w3) (fun _ _ => 0)
    case atStart => exact ⟨rfl, rfl⟩
    case round =>
      obtain ⟨rfl, rfl⟩ := hrel
      have h1 := Bytes_ok (HM.out.grows HG3.out) 0 512 (by omega)
      obtain ⟨cR, r1, r2, r3⟩ := (HR.out.grows HG3.out).hd
      have hcr : Hid (Row wr rp #[.slice (some ⟨rq, 0, none⟩) 512 cR] 69) := r3
      clear r3 hX
      by_cases hlen : 0 < m
      · go_wp2_with fail
        refine h1.mono ?_
        rintro _ w5 ⟨v, rfl, b1, c1, rfl, s1, s2, hg5, hb1, hB1⟩
        have cr5 : w5.cell? ⟨rp, 0, none⟩ = some (.slice (some ⟨rq, 0, none⟩) 512 cR) := (hcr.out.grows hg5).cell 0
        have q1 : (convert 44 9 (.slice (some ⟨b1, 0, none⟩) 512 c1)).run Tryd.prog w5.drew = .ok (.string (strB (segB (fun _ => 0) 0 512))) w5.drew := conv_bts (hB1.grows ((Grows.refl _).drew))
        have q2 : (convert 44 9 (.slice (some ⟨rq, 0, none⟩) 512 cR)).run Tryd.prog w5.drew = .ok (.string (strB (segB (fun _ => 0) 0 512))) w5.drew := conv_bts (HR.out.grows (HG3.out.trans (hg5.drew))).bts
        generalize strB (segB (fun _ => 0) 0 512) = S1 at *
        have HG5 := Lib.hid ((HG2.out.trans HG3.out).trans hg5)
        clear h1 hg5 hB1
        go_wp2_with fail
        go_region
        all_goals
          go_wp2_with fail
          go_ret
          exact ⟨by simp, by first | exact HG5.out | exact HG5.out.drew⟩
      · go_wp2_with fail
        refine h1.mono ?_
        rintro _ w5 ⟨v, rfl, b1, c1, rfl, s1, s2, hg5, hb1, hB1⟩
        have cr5 : w5.cell? ⟨rp, 0, none⟩ = some (.slice (some ⟨rq, 0, none⟩) 512 cR) := (hcr.out.grows hg5).cell 0
        have q1 : (convert 44 9 (.slice (some ⟨b1, 0, none⟩) 512 c1)).run Tryd.prog w5.drew = .ok (.string (strB (segB (fun _ => 0) 0 512))) w5.drew := conv_bts (hB1.grows ((Grows.refl _).drew))
        have q2 : (convert 44 9 (.slice (some ⟨rq, 0, none⟩) 512 cR)).run Tryd.prog w5.drew = .ok (.string (strB (segB (fun _ => 0) 0 512))) w5.drew := conv_bts (HR.out.grows (HG3.out.trans (hg5.drew))).bts
        generalize strB (segB (fun _ => 0) 0 512) = S1 at *
        have HG5 := Lib.hid ((HG2.out.trans HG3.out).trans hg5)
        clear h1 hg5 hB1
        go_wp2_with fail
        go_region
        all_goals
          go_wp2_with fail
          go_ret
          exact ⟨by simp, by first | exact HG5.out | exact HG5.out.drew⟩
end
end Go.Proofs.YtbiadhgkpggdeaaDoor
