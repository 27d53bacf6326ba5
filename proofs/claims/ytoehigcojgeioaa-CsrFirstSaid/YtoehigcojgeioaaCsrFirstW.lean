/- The walk of CsrFirst. -/
import Derived.Test.YtoehigcojgeioaaCsrD
namespace Go.Proofs.Ytoehigcojgeioaa
open Go Go.RowKit
set_option linter.unusedSimpArgs false
set_option linter.unusedVariables false
def bitS (x : Int) (k : Nat) : Bool := bits .and .i64 (x / 2 ^ k) 1 == 1
def enZ (q m : Int) (e : Bool) : Int := if e then bits .or .u64 q m else q
/-- The registers, and what is wanted, behind k rounds. -/
def pK (s0 s1 s2 : Bool) : Nat → Int
  | 0 => 0
  | 1 => lineZ 0 512 s0
  | 2 => lineZ (lineZ 0 512 s0) 2 s1
  | _ => lineZ (lineZ (lineZ 0 512 s0) 2 s1) 32 s2
def qK (e0 e1 e2 : Bool) : Nat → Int
  | 0 => 0
  | 1 => enZ 0 512 e0
  | 2 => enZ (enZ 0 512 e0) 2 e1
  | _ => enZ (enZ (enZ 0 512 e0) 2 e1) 32 e2
def wK (a0 a1 a2 : Bool) : Nat → Int
  | 0 => 0
  | 1 => if a0 then 4611686018427387913 else 0
  | 2 => if a0 then 4611686018427387913 else if a1 then 4611686018427387905 else 0
  | _ => if a0 then 4611686018427387913 else if a1 then 4611686018427387905 else if a2 then 4611686018427387909 else 0
def tK (a0 a1 a2 : Bool) : Nat → Bool
  | 0 => false
  | 1 => a0
  | 2 => a0 || a1
  | _ => a0 || a1 || a2
theorem first_law : ∀ s0 s1 s2 e0 e1 e2 : Bool, dueZ (qK e0 e1 e2 3) (pK s0 s1 s2 3) = wK (s0 && e0) (s1 && e1) (s2 && e2) 3 ∧ dueT (qK e0 e1 e2 3) (pK s0 s1 s2 3) = tK (s0 && e0) (s1 && e1) (s2 && e2) 3 ∧
    (bits .and .u64 (bits .and .u64 (qK e0 e1 e2 3) (pK s0 s1 s2 3)) 546 != 0) = tK (s0 && e0) (s1 && e1) (s2 && e2) 3 := by
  intro s0 s1 s2 e0 e1 e2
  cases s0 <;> cases s1 <;> cases s2 <;> cases e0 <;> cases e1 <;> cases e2 <;> decide
set_option maxHeartbeats 4000000 in
theorem csrFirst_walk (x : Int) (wx : (Lit.int .i64 x).wf = true) (y : Int) (wy : (Lit.int .i64 y).wf = true) (on : Bool) (w : World) :
    Calls Try.prog 3 #[.int .i64 x, .int .i64 y, .bool on] w fun r w' => r = .returned (.bool true) ∧ Grows w w' := by
  clear wx wy
  go_enter Try.func3, Try.ntmps3
  go_wp2_with fail
  refine (new_any (by decide) _).mono ?_
  rintro _ w1 ⟨rfl, hF1, hg1⟩
  go_wp2_with fail
  obtain ⟨b, hb⟩ : ∃ b, b = w.heap.size := ⟨_, rfl⟩
  rw [← hb]
  rw [← hb] at hF1
  obtain ⟨S, hS⟩ : ∃ S, S = w1.heap.size := ⟨_, rfl⟩
  rw [← hS]
  obtain ⟨W, hW⟩ : ∃ W, W = w1.alloc (Obj.cells #[.int .i64 9, .int .i64 1, .int .i64 5] 3) := ⟨_, rfl⟩
  rw [← hW]
  have hF : File W b (updR (fun _ => 0) 11 0) := by rw [hW]; exact hF1.grows ((Grows.refl _).alloc _)
  have hL : Row W S #[.int .i64 9, .int .i64 1, .int .i64 5] 3 := by rw [hW]; exact Row.new_at _ _ _ hS
  have hg : Grows w W := by rw [hW]; exact hg1.alloc _
  have hbS : S ≠ b := by have := hF1.lt; omega
  have hbw : w.heap.size ≤ b := by omega
  clear hW hS hF1 hg1
  have HB := Lib.hid hbw
  clear hbw hb
  obtain ⟨s0, hs0⟩ : ∃ s, (bits .and .i64 x 1 == 1) = s := ⟨_, rfl⟩
  obtain ⟨s1, hs1⟩ : ∃ s, (bits .and .i64 (x / 2) 1 == 1) = s := ⟨_, rfl⟩
  obtain ⟨s2, hs2⟩ : ∃ s, (bits .and .i64 (x / 4) 1 == 1) = s := ⟨_, rfl⟩
  obtain ⟨e0, he0⟩ : ∃ s, (bits .and .i64 y 1 == 1) = s := ⟨_, rfl⟩
  obtain ⟨e1, he1⟩ : ∃ s, (bits .and .i64 (y / 2) 1 == 1) = s := ⟨_, rfl⟩
  obtain ⟨e2, he2⟩ : ∃ s, (bits .and .i64 (y / 4) 1 == 1) = s := ⟨_, rfl⟩
  go_loopw [9, 10, 11] (fun wa is i wr => (∃ (k : Nat) (I wz : Int) (tz : Bool) (r : Nat → Int), k ≤ 3 ∧ I = k ∧ i = .int .i64 I ∧ wa = .int .i64 wz ∧ is = .bool tz ∧ wz = wK (s0 && e0) (s1 && e1) (s2 && e2) k ∧ tz = tK (s0 && e0) (s1 && e1) (s2 && e2) k ∧ File wr b r ∧ r 0 = 0 ∧ r 1 = qK e0 e1 e2 k ∧ r 2 = pK s0 s1 s2 k) ∧ Row wr S #[.int .i64 9, .int .i64 1, .int .i64 5] 3 ∧ Grows w wr) (fun _ _ i _ => (3 - intOf i).toNat)
  case atStart => exact ⟨⟨0, 0, _, _, _, by omega, rfl, rfl, rfl, rfl, rfl, rfl, hF, rfl, rfl, rfl⟩, hL, hg⟩
  case round =>
    obtain ⟨⟨k, I, wz, tz, r, hk, hI, rfl, rfl, rfl, hwz, htz, hF', h0, h1, h2⟩, hL', hg'⟩ := hrel
    clear hF hL hg
    have cL := hL'.cell
    have lL := hL'.lt
    by_cases hlt : k < 3
    · have : k = 0 ∨ k = 1 ∨ k = 2 := by omega
      rcases this with rfl | rfl | rfl
      · simp at hI
        subst hI
        have R := Lib.hid (And.intro hwz (And.intro htz (And.intro h0 (And.intro h1 h2))))
        clear hwz htz h0 h1 h2
        go_wp2_with fail
        refine (line_any hF' (l := 9) (m := 512) (by simp) s0).mono ?_
        rintro _ w2 ⟨rfl, hF2, hT2⟩
        have hL2 := Row_turns hL' hbS hT2
        have hg2 := Grows_turns hg' HB.out hT2
        clear hT2 hF' hL' hg' cL lL
        have cL := hL2.cell
        have lL := hL2.lt
        cases e0
        · go_wp2_with fail
          obtain ⟨q1, q2, q3, q4, q5⟩ := R.out
          exact ⟨⟨⟨0 + 1, 0 + 1, wz, tz, _, by omega, rfl, rfl, rfl, rfl, by rw [q1]; simp [wK], by rw [q2]; simp [tK], hF2, by simp [updR, q3], by simp [updR, q4, qK, enZ, IntKind.wrap_u64], by simp [updR, q5, pK]⟩, hL2, hg2⟩, by decide⟩
        · go_wp2_with fail
          obtain ⟨V, hV⟩ : ∃ V, V = World.drew w2 := ⟨_, rfl⟩
          have hV2 : File V b (updR r 2 (lineZ (r 2) 512 s0)) := by rw [hV]; exact (hF2).grows ((Grows.refl _).drew)
          have hTV : Turns b w2 V := by rw [hV]; exact Turns_grows ((Grows.refl _).drew)
          refine wp_region_still_tail 10 (by kernel_rfl) (by kernel_rfl) ?_
          simp only [List.take_succ_cons, List.take_zero, List.drop_succ_cons, List.drop_zero]
          change wpStill _ _ (World.drew w2) _ _ _
          rw [← hV]
          have HV := Lib.hid hV
          clear hV
          have hLV := Row_turns hL2 hbS hTV
          have hgV := Grows_turns hg2 HB.out hTV
          clear cL lL hF2 hL2 hg2 hTV
          have cL := hLV.cell
          have lL := hLV.lt
          repeat still_step
          still_call (get_any hV2 (n := 1) (by omega))
          repeat still_step
          refine wpStill_nil ?_
          change wpList _ _ _ _ _ (World.drew w2)
          rw [← HV.out]
          go_wp2_with fail
          refine (set_any hV2 (n := 1) (by omega) _).mono ?_
          rintro _ w3 ⟨rfl, hF3, hT3⟩
          have hL3 := Row_turns hLV hbS hT3
          have hg3 := Grows_turns hgV HB.out hT3
          clear cL lL hT3 hV2 hLV hgV HV
          have cL := hL3.cell
          have lL := hL3.lt
          cases s0
          · go_wp2_with fail
            obtain ⟨q1, q2, q3, q4, q5⟩ := R.out
            exact ⟨⟨⟨0 + 1, 0 + 1, wz, tz, _, by omega, rfl, rfl, rfl, rfl, by rw [q1]; simp [wK], by rw [q2]; simp [tK], hF3, by simp [updR, q3], by simp [updR, q4, qK, enZ, IntKind.wrap_u64], by simp [updR, q5, pK]⟩, hL3, hg3⟩, by decide⟩
          · cases tz
            · go_wp2_with fail
              obtain ⟨q1, q2, q3, q4, q5⟩ := R.out
              exact ⟨⟨⟨0 + 1, 0 + 1, 4611686018427387913, true, _, by omega, rfl, rfl, rfl, rfl, by revert q2; skip <;> simp [wK, tK], by simp [tK], hF3, by simp [updR, q3], by simp [updR, q4, qK, enZ, IntKind.wrap_u64], by simp [updR, q5, pK]⟩, hL3, hg3⟩, by decide⟩
            · go_wp2_with fail
              obtain ⟨q1, q2, q3, q4, q5⟩ := R.out
              exact ⟨⟨⟨0 + 1, 0 + 1, wz, true, _, by omega, rfl, rfl, rfl, rfl, by rw [q1]; revert q2; skip <;> simp [wK, tK], by simp [tK], hF3, by simp [updR, q3], by simp [updR, q4, qK, enZ, IntKind.wrap_u64], by simp [updR, q5, pK]⟩, hL3, hg3⟩, by decide⟩
      · simp at hI
        subst hI
        have R := Lib.hid (And.intro hwz (And.intro htz (And.intro h0 (And.intro h1 h2))))
        clear hwz htz h0 h1 h2
        go_wp2_with fail
        refine (line_any hF' (l := 1) (m := 2) (by simp) s1).mono ?_
        rintro _ w2 ⟨rfl, hF2, hT2⟩
        have hL2 := Row_turns hL' hbS hT2
        have hg2 := Grows_turns hg' HB.out hT2
        clear hT2 hF' hL' hg' cL lL
        have cL := hL2.cell
        have lL := hL2.lt
        cases e1
        · go_wp2_with fail
          obtain ⟨q1, q2, q3, q4, q5⟩ := R.out
          exact ⟨⟨⟨1 + 1, 1 + 1, wz, tz, _, by omega, rfl, rfl, rfl, rfl, by rw [q1]; simp [wK], by rw [q2]; simp [tK], hF2, by simp [updR, q3], by simp [updR, q4, qK, enZ, IntKind.wrap_u64], by simp [updR, q5, pK]⟩, hL2, hg2⟩, by decide⟩
        · go_wp2_with fail
          obtain ⟨V, hV⟩ : ∃ V, V = World.drew w2 := ⟨_, rfl⟩
          have hV2 : File V b (updR r 2 (lineZ (r 2) 2 s1)) := by rw [hV]; exact (hF2).grows ((Grows.refl _).drew)
          have hTV : Turns b w2 V := by rw [hV]; exact Turns_grows ((Grows.refl _).drew)
          refine wp_region_still_tail 10 (by kernel_rfl) (by kernel_rfl) ?_
          simp only [List.take_succ_cons, List.take_zero, List.drop_succ_cons, List.drop_zero]
          change wpStill _ _ (World.drew w2) _ _ _
          rw [← hV]
          have HV := Lib.hid hV
          clear hV
          have hLV := Row_turns hL2 hbS hTV
          have hgV := Grows_turns hg2 HB.out hTV
          clear cL lL hF2 hL2 hg2 hTV
          have cL := hLV.cell
          have lL := hLV.lt
          repeat still_step
          still_call (get_any hV2 (n := 1) (by omega))
          repeat still_step
          refine wpStill_nil ?_
          change wpList _ _ _ _ _ (World.drew w2)
          rw [← HV.out]
          go_wp2_with fail
          refine (set_any hV2 (n := 1) (by omega) _).mono ?_
          rintro _ w3 ⟨rfl, hF3, hT3⟩
          have hL3 := Row_turns hLV hbS hT3
          have hg3 := Grows_turns hgV HB.out hT3
          clear cL lL hT3 hV2 hLV hgV HV
          have cL := hL3.cell
          have lL := hL3.lt
          cases s1
          · go_wp2_with fail
            obtain ⟨q1, q2, q3, q4, q5⟩ := R.out
            exact ⟨⟨⟨1 + 1, 1 + 1, wz, tz, _, by omega, rfl, rfl, rfl, rfl, by rw [q1]; simp [wK], by rw [q2]; simp [tK], hF3, by simp [updR, q3], by simp [updR, q4, qK, enZ, IntKind.wrap_u64], by simp [updR, q5, pK]⟩, hL3, hg3⟩, by decide⟩
          · cases tz
            · go_wp2_with fail
              obtain ⟨q1, q2, q3, q4, q5⟩ := R.out
              exact ⟨⟨⟨1 + 1, 1 + 1, 4611686018427387905, true, _, by omega, rfl, rfl, rfl, rfl, by revert q2; cases s0 <;> cases e0 <;> simp [wK, tK], by simp [tK], hF3, by simp [updR, q3], by simp [updR, q4, qK, enZ, IntKind.wrap_u64], by simp [updR, q5, pK]⟩, hL3, hg3⟩, by decide⟩
            · go_wp2_with fail
              obtain ⟨q1, q2, q3, q4, q5⟩ := R.out
              exact ⟨⟨⟨1 + 1, 1 + 1, wz, true, _, by omega, rfl, rfl, rfl, rfl, by rw [q1]; revert q2; cases s0 <;> cases e0 <;> simp [wK, tK], by simp [tK], hF3, by simp [updR, q3], by simp [updR, q4, qK, enZ, IntKind.wrap_u64], by simp [updR, q5, pK]⟩, hL3, hg3⟩, by decide⟩
      · simp at hI
        subst hI
        have R := Lib.hid (And.intro hwz (And.intro htz (And.intro h0 (And.intro h1 h2))))
        clear hwz htz h0 h1 h2
        go_wp2_with fail
        refine (line_any hF' (l := 5) (m := 32) (by simp) s2).mono ?_
        rintro _ w2 ⟨rfl, hF2, hT2⟩
        have hL2 := Row_turns hL' hbS hT2
        have hg2 := Grows_turns hg' HB.out hT2
        clear hT2 hF' hL' hg' cL lL
        have cL := hL2.cell
        have lL := hL2.lt
        cases e2
        · go_wp2_with fail
          obtain ⟨q1, q2, q3, q4, q5⟩ := R.out
          exact ⟨⟨⟨2 + 1, 2 + 1, wz, tz, _, by omega, rfl, rfl, rfl, rfl, by rw [q1]; simp [wK], by rw [q2]; simp [tK], hF2, by simp [updR, q3], by simp [updR, q4, qK, enZ, IntKind.wrap_u64], by simp [updR, q5, pK]⟩, hL2, hg2⟩, by decide⟩
        · go_wp2_with fail
          obtain ⟨V, hV⟩ : ∃ V, V = World.drew w2 := ⟨_, rfl⟩
          have hV2 : File V b (updR r 2 (lineZ (r 2) 32 s2)) := by rw [hV]; exact (hF2).grows ((Grows.refl _).drew)
          have hTV : Turns b w2 V := by rw [hV]; exact Turns_grows ((Grows.refl _).drew)
          refine wp_region_still_tail 10 (by kernel_rfl) (by kernel_rfl) ?_
          simp only [List.take_succ_cons, List.take_zero, List.drop_succ_cons, List.drop_zero]
          change wpStill _ _ (World.drew w2) _ _ _
          rw [← hV]
          have HV := Lib.hid hV
          clear hV
          have hLV := Row_turns hL2 hbS hTV
          have hgV := Grows_turns hg2 HB.out hTV
          clear cL lL hF2 hL2 hg2 hTV
          have cL := hLV.cell
          have lL := hLV.lt
          repeat still_step
          still_call (get_any hV2 (n := 1) (by omega))
          repeat still_step
          refine wpStill_nil ?_
          change wpList _ _ _ _ _ (World.drew w2)
          rw [← HV.out]
          go_wp2_with fail
          refine (set_any hV2 (n := 1) (by omega) _).mono ?_
          rintro _ w3 ⟨rfl, hF3, hT3⟩
          have hL3 := Row_turns hLV hbS hT3
          have hg3 := Grows_turns hgV HB.out hT3
          clear cL lL hT3 hV2 hLV hgV HV
          have cL := hL3.cell
          have lL := hL3.lt
          cases s2
          · go_wp2_with fail
            obtain ⟨q1, q2, q3, q4, q5⟩ := R.out
            exact ⟨⟨⟨2 + 1, 2 + 1, wz, tz, _, by omega, rfl, rfl, rfl, rfl, by rw [q1]; simp [wK], by rw [q2]; simp [tK], hF3, by simp [updR, q3], by simp [updR, q4, qK, enZ, IntKind.wrap_u64], by simp [updR, q5, pK]⟩, hL3, hg3⟩, by decide⟩
          · cases tz
            · go_wp2_with fail
              obtain ⟨q1, q2, q3, q4, q5⟩ := R.out
              exact ⟨⟨⟨2 + 1, 2 + 1, 4611686018427387909, true, _, by omega, rfl, rfl, rfl, rfl, by revert q2; cases s0 <;> cases e0 <;> cases s1 <;> cases e1 <;> simp [wK, tK], by simp [tK], hF3, by simp [updR, q3], by simp [updR, q4, qK, enZ, IntKind.wrap_u64], by simp [updR, q5, pK]⟩, hL3, hg3⟩, by decide⟩
            · go_wp2_with fail
              obtain ⟨q1, q2, q3, q4, q5⟩ := R.out
              exact ⟨⟨⟨2 + 1, 2 + 1, wz, true, _, by omega, rfl, rfl, rfl, rfl, by rw [q1]; revert q2; cases s0 <;> cases e0 <;> cases s1 <;> cases e1 <;> simp [wK, tK], by simp [tK], hF3, by simp [updR, q3], by simp [updR, q4, qK, enZ, IntKind.wrap_u64], by simp [updR, q5, pK]⟩, hL3, hg3⟩, by decide⟩
    · have : k = 3 := by omega
      subst this
      simp at hI
      subst hI
      obtain ⟨d1, d2, d3⟩ := first_law s0 s1 s2 e0 e1 e2
      rw [← h1, ← h2] at d1 d2 d3
      rw [← hwz] at d1
      rw [← htz] at d2 d3
      have R := Lib.hid h0
      have D := Lib.hid (And.intro d1 (And.intro d2 d3))
      clear hwz htz h0 h1 h2 d1 d2 d3 hs0 hs1 hs2 he0 he1 he2 cL lL hL'
      cases on
      · go_wp2_with fail
        refine (due_user hF').mono ?_
        rintro _ w2 ⟨rfl, hg2⟩
        rw [D.out.1, D.out.2.1]
        go_wp2_with fail
        refine (due_kern (hF'.grows hg2)).mono ?_
        rintro _ w3 ⟨rfl, hg3⟩
        rw [R.out, if_pos (by decide)]
        cases tz
        all_goals
          go_wp2_with fail
          refine (wakes_any (hF'.grows (hg2.trans hg3))).mono ?_
          rintro _ w4 ⟨rfl, hg4⟩
          rw [D.out.2.2]
          go_wp2_with fail
          go_ret
          exact ⟨by simp, ((hg'.trans hg2).trans hg3).trans hg4⟩
      · go_wp2_with fail
        refine (set_any hF' (n := 0) (by omega) 2).mono ?_
        rintro _ w1 ⟨rfl, hF1, hT1⟩
        have hg1 := Grows_turns hg' HB.out hT1
        clear hF' hT1 hg'
        go_wp2_with fail
        refine (due_user hF1).mono ?_
        rintro _ w2 ⟨rfl, hg2⟩
        rw [show updR r 0 2 1 = r 1 from rfl, show updR r 0 2 2 = r 2 from rfl, D.out.1, D.out.2.1]
        go_wp2_with fail
        refine (due_kern (hF1.grows hg2)).mono ?_
        rintro _ w3 ⟨rfl, hg3⟩
        rw [show updR r 0 2 1 = r 1 from rfl, show updR r 0 2 2 = r 2 from rfl, D.out.1, D.out.2.1, show updR r 0 2 0 = 2 from rfl, if_neg (by decide)]
        cases tz
        all_goals
          go_wp2_with fail
          refine (wakes_any (hF1.grows (hg2.trans hg3))).mono ?_
          rintro _ w4 ⟨rfl, hg4⟩
          rw [show updR r 0 2 1 = r 1 from rfl, show updR r 0 2 2 = r 2 from rfl, D.out.2.2]
          go_wp2_with fail
          go_ret
          exact ⟨by simp, ((hg1.trans hg2).trans hg3).trans hg4⟩
end Go.Proofs.Ytoehigcojgeioaa
