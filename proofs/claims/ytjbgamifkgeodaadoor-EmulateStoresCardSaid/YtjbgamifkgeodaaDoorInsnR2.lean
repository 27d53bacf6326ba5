/- What imm and Valid of the reference of the package insn compute. -/
import Derived.Test.YtjbgamifkgeodaaDoorInsnR
namespace Go.Proofs.YtjbgamifkgeodaaDoor
open Go Go.RowKit
set_option linter.unusedSimpArgs false
set_option linter.unusedVariables false
set_option maxHeartbeats 4000000 in
theorem rimm_any (op v : Int) (w : World) :
    Calls Tryd.prog 30 #[.int .i64 op, .int .i64 v] w fun r w' => r = .returned (.bool (immB op (shapeZ op) v)) ∧ Grows w w' := by
  by_cases h1 : 18 ≤ op ∧ op ≤ 20
  · have e : immB op (shapeZ op) v = decide (0 ≤ v ∧ v < 63 + 1) := by unfold immB; rw [if_pos h1]; rfl
    obtain ⟨l1, l2⟩ := h1
    by_cases h0 : 0 ≤ v
    · by_cases h2 : v ≤ 63
      · rw [e, decide_eq_true (show 0 ≤ v ∧ v < 63 + 1 by omega)]
        clear e
        go_enter Tryd.func30, Tryd.ntmps30
        go_wp2_with fail
        go_ret
        exact ⟨by first | rfl | (simp; omega), Grows.refl _⟩
      · rw [e, decide_eq_false (show ¬ (0 ≤ v ∧ v < 63 + 1) by omega)]
        have h2' : 63 < v := by omega
        clear e h2
        go_enter Tryd.func30, Tryd.ntmps30
        go_wp2_with fail
        go_ret
        exact ⟨by first | rfl | (simp; omega), Grows.refl _⟩
    · rw [e, decide_eq_false (show ¬ (0 ≤ v ∧ v < 63 + 1) by omega)]
      have h0' : v < 0 := by omega
      clear e h0
      go_enter Tryd.func30, Tryd.ntmps30
      go_wp2_with fail
      go_ret
      exact ⟨by first | rfl | (simp; omega), Grows.refl _⟩
  by_cases h2 : 46 ≤ op ∧ op ≤ 48
  · have e : immB op (shapeZ op) v = decide (0 ≤ v ∧ v < 4095 + 1) := by unfold immB; rw [if_neg (by omega), if_pos h2]; rfl
    obtain ⟨l1, l2⟩ := h2
    clear h1
    have l0 : 20 < op := by omega
    by_cases h0 : 0 ≤ v
    · by_cases h2 : v ≤ 4095
      · rw [e, decide_eq_true (show 0 ≤ v ∧ v < 4095 + 1 by omega)]
        clear e
        go_enter Tryd.func30, Tryd.ntmps30
        go_wp2_with fail
        go_ret
        exact ⟨by first | rfl | (simp; omega), Grows.refl _⟩
      · rw [e, decide_eq_false (show ¬ (0 ≤ v ∧ v < 4095 + 1) by omega)]
        have h2' : 4095 < v := by omega
        clear e h2
        go_enter Tryd.func30, Tryd.ntmps30
        go_wp2_with fail
        go_ret
        exact ⟨by first | rfl | (simp; omega), Grows.refl _⟩
    · rw [e, decide_eq_false (show ¬ (0 ≤ v ∧ v < 4095 + 1) by omega)]
      have h0' : v < 0 := by omega
      clear e h0
      go_enter Tryd.func30, Tryd.ntmps30
      go_wp2_with fail
      go_ret
      exact ⟨by first | rfl | (simp; omega), Grows.refl _⟩
  have e : immB op (shapeZ op) v = if shapeZ op = 2 ∨ shapeZ op = 3 ∨ shapeZ op = 4 then fitsB v 14 else if shapeZ op = 5 then fitsB v 18 else v == 0 := by
    unfold immB
    rw [if_neg h1, if_neg h2]
  rw [e]
  clear e
  have hsh := fun w => rshape_any op w
  obtain ⟨s, hs⟩ : ∃ s, s = shapeZ op := ⟨_, rfl⟩
  rw [← hs]
  rw [← hs] at hsh
  clear hs
  have hr : op < 18 ∨ (20 < op ∧ op < 46) ∨ 48 < op := by omega
  clear h1 h2
  rcases hr with l1 | ⟨l1, l2⟩ | l1
  · by_cases h : s = 2 ∨ s = 3 ∨ s = 4
    · rw [if_pos h]
      rcases h with rfl | rfl | rfl
      all_goals
        go_enter Tryd.func30, Tryd.ntmps30
        go_wp2_with fail
        refine (hsh _).mono ?_
        rintro _ w1 ⟨rfl, g1, rfl⟩
        go_wp2_with fail
        refine (rfits_any _ _ _).mono ?_
        rintro _ w1 ⟨rfl, g2, rfl⟩
        go_wp2_with fail
        go_ret
        exact ⟨rfl, Grows.of _ _⟩
    · rw [if_neg h]
      by_cases h5 : s = 5
      · rw [if_pos h5]
        subst h5
        go_enter Tryd.func30, Tryd.ntmps30
        go_wp2_with fail
        refine (hsh _).mono ?_
        rintro _ w1 ⟨rfl, g1, rfl⟩
        go_wp2_with fail
        refine (rfits_any _ _ _).mono ?_
        rintro _ w1 ⟨rfl, g2, rfl⟩
        go_wp2_with fail
        go_ret
        exact ⟨rfl, Grows.of _ _⟩
      · rw [if_neg h5]
        have c2 : (s == 2) = false := by simp; omega
        have c3 : (s == 3) = false := by simp; omega
        have c4 : (s == 4) = false := by simp; omega
        have c5 : (s == 5) = false := by simp; omega
        clear h h5
        go_enter Tryd.func30, Tryd.ntmps30
        go_wp2_with fail
        refine (hsh _).mono ?_
        rintro _ w1 ⟨rfl, g1, rfl⟩
        go_wp2_with fail
        go_ret
        exact ⟨rfl, Grows.of _ _⟩
  · by_cases h : s = 2 ∨ s = 3 ∨ s = 4
    · rw [if_pos h]
      rcases h with rfl | rfl | rfl
      all_goals
        go_enter Tryd.func30, Tryd.ntmps30
        go_wp2_with fail
        refine (hsh _).mono ?_
        rintro _ w1 ⟨rfl, g1, rfl⟩
        go_wp2_with fail
        refine (rfits_any _ _ _).mono ?_
        rintro _ w1 ⟨rfl, g2, rfl⟩
        go_wp2_with fail
        go_ret
        exact ⟨rfl, Grows.of _ _⟩
    · rw [if_neg h]
      by_cases h5 : s = 5
      · rw [if_pos h5]
        subst h5
        go_enter Tryd.func30, Tryd.ntmps30
        go_wp2_with fail
        refine (hsh _).mono ?_
        rintro _ w1 ⟨rfl, g1, rfl⟩
        go_wp2_with fail
        refine (rfits_any _ _ _).mono ?_
        rintro _ w1 ⟨rfl, g2, rfl⟩
        go_wp2_with fail
        go_ret
        exact ⟨rfl, Grows.of _ _⟩
      · rw [if_neg h5]
        have c2 : (s == 2) = false := by simp; omega
        have c3 : (s == 3) = false := by simp; omega
        have c4 : (s == 4) = false := by simp; omega
        have c5 : (s == 5) = false := by simp; omega
        clear h h5
        go_enter Tryd.func30, Tryd.ntmps30
        go_wp2_with fail
        refine (hsh _).mono ?_
        rintro _ w1 ⟨rfl, g1, rfl⟩
        go_wp2_with fail
        go_ret
        exact ⟨rfl, Grows.of _ _⟩
  · by_cases h : s = 2 ∨ s = 3 ∨ s = 4
    · rw [if_pos h]
      rcases h with rfl | rfl | rfl
      all_goals
        go_enter Tryd.func30, Tryd.ntmps30
        go_wp2_with fail
        refine (hsh _).mono ?_
        rintro _ w1 ⟨rfl, g1, rfl⟩
        go_wp2_with fail
        refine (rfits_any _ _ _).mono ?_
        rintro _ w1 ⟨rfl, g2, rfl⟩
        go_wp2_with fail
        go_ret
        exact ⟨rfl, Grows.of _ _⟩
    · rw [if_neg h]
      by_cases h5 : s = 5
      · rw [if_pos h5]
        subst h5
        go_enter Tryd.func30, Tryd.ntmps30
        go_wp2_with fail
        refine (hsh _).mono ?_
        rintro _ w1 ⟨rfl, g1, rfl⟩
        go_wp2_with fail
        refine (rfits_any _ _ _).mono ?_
        rintro _ w1 ⟨rfl, g2, rfl⟩
        go_wp2_with fail
        go_ret
        exact ⟨rfl, Grows.of _ _⟩
      · rw [if_neg h5]
        have c2 : (s == 2) = false := by simp; omega
        have c3 : (s == 3) = false := by simp; omega
        have c4 : (s == 4) = false := by simp; omega
        have c5 : (s == 5) = false := by simp; omega
        clear h h5
        go_enter Tryd.func30, Tryd.ntmps30
        go_wp2_with fail
        refine (hsh _).mono ?_
        rintro _ w1 ⟨rfl, g1, rfl⟩
        go_wp2_with fail
        go_ret
        exact ⟨rfl, Grows.of _ _⟩
end Go.Proofs.YtjbgamifkgeodaaDoor
