/- What immOf and Valid of the package insn compute. -/
import Derived.Test.YtjbgamifkgeodaaDoorInsnS
namespace Go.Proofs.YtjbgamifkgeodaaDoor
open Go Go.RowKit
set_option linter.unusedSimpArgs false
set_option linter.unusedVariables false
set_option maxHeartbeats 2000000 in
theorem immOf_any (op s v : Int) (w : World) :
    Calls Tryd.prog 39 #[.int .i64 op, .int .i64 s, .int .i64 v] w fun r w' => r = .returned (.bool (immB op s v)) ∧ Grows w w' := by
  by_cases h18 : op = 18
  · subst h18
    by_cases h0 : 0 ≤ v
    · by_cases h2 : v < 64
      · have e : immB 18 s v = true := by simp [immB, h0, h2]
        rw [e]
        clear e
        go_enter Tryd.func39, Tryd.ntmps39
        go_wp2_with fail
        go_ret
        exact ⟨rfl, Grows.refl _⟩
      · have e : immB 18 s v = false := by simp [immB]; omega
        rw [e]
        clear e
        go_enter Tryd.func39, Tryd.ntmps39
        go_wp2_with fail
        go_ret
        exact ⟨rfl, Grows.refl _⟩
    · have e : immB 18 s v = false := by simp [immB]; omega
      rw [e]
      clear e
      have h0' : v < 0 := by omega
      go_enter Tryd.func39, Tryd.ntmps39
      go_wp2_with fail
      go_ret
      exact ⟨rfl, Grows.refl _⟩
  by_cases h19 : op = 19
  · subst h19
    by_cases h0 : 0 ≤ v
    · by_cases h2 : v < 64
      · have e : immB 19 s v = true := by simp [immB, h0, h2]
        rw [e]
        clear e
        go_enter Tryd.func39, Tryd.ntmps39
        go_wp2_with fail
        go_ret
        exact ⟨rfl, Grows.refl _⟩
      · have e : immB 19 s v = false := by simp [immB]; omega
        rw [e]
        clear e
        go_enter Tryd.func39, Tryd.ntmps39
        go_wp2_with fail
        go_ret
        exact ⟨rfl, Grows.refl _⟩
    · have e : immB 19 s v = false := by simp [immB]; omega
      rw [e]
      clear e
      have h0' : v < 0 := by omega
      go_enter Tryd.func39, Tryd.ntmps39
      go_wp2_with fail
      go_ret
      exact ⟨rfl, Grows.refl _⟩
  by_cases h20 : op = 20
  · subst h20
    by_cases h0 : 0 ≤ v
    · by_cases h2 : v < 64
      · have e : immB 20 s v = true := by simp [immB, h0, h2]
        rw [e]
        clear e
        go_enter Tryd.func39, Tryd.ntmps39
        go_wp2_with fail
        go_ret
        exact ⟨rfl, Grows.refl _⟩
      · have e : immB 20 s v = false := by simp [immB]; omega
        rw [e]
        clear e
        go_enter Tryd.func39, Tryd.ntmps39
        go_wp2_with fail
        go_ret
        exact ⟨rfl, Grows.refl _⟩
    · have e : immB 20 s v = false := by simp [immB]; omega
      rw [e]
      clear e
      have h0' : v < 0 := by omega
      go_enter Tryd.func39, Tryd.ntmps39
      go_wp2_with fail
      go_ret
      exact ⟨rfl, Grows.refl _⟩
  by_cases h46 : op = 46
  · subst h46
    by_cases h0 : 0 ≤ v
    · by_cases h2 : v < 4096
      · have e : immB 46 s v = true := by simp [immB, h0, h2]
        rw [e]
        clear e
        go_enter Tryd.func39, Tryd.ntmps39
        go_wp2_with fail
        go_ret
        exact ⟨rfl, Grows.refl _⟩
      · have e : immB 46 s v = false := by simp [immB]; omega
        rw [e]
        clear e
        go_enter Tryd.func39, Tryd.ntmps39
        go_wp2_with fail
        go_ret
        exact ⟨rfl, Grows.refl _⟩
    · have e : immB 46 s v = false := by simp [immB]; omega
      rw [e]
      clear e
      have h0' : v < 0 := by omega
      go_enter Tryd.func39, Tryd.ntmps39
      go_wp2_with fail
      go_ret
      exact ⟨rfl, Grows.refl _⟩
  by_cases h47 : op = 47
  · subst h47
    by_cases h0 : 0 ≤ v
    · by_cases h2 : v < 4096
      · have e : immB 47 s v = true := by simp [immB, h0, h2]
        rw [e]
        clear e
        go_enter Tryd.func39, Tryd.ntmps39
        go_wp2_with fail
        go_ret
        exact ⟨rfl, Grows.refl _⟩
      · have e : immB 47 s v = false := by simp [immB]; omega
        rw [e]
        clear e
        go_enter Tryd.func39, Tryd.ntmps39
        go_wp2_with fail
        go_ret
        exact ⟨rfl, Grows.refl _⟩
    · have e : immB 47 s v = false := by simp [immB]; omega
      rw [e]
      clear e
      have h0' : v < 0 := by omega
      go_enter Tryd.func39, Tryd.ntmps39
      go_wp2_with fail
      go_ret
      exact ⟨rfl, Grows.refl _⟩
  by_cases h48 : op = 48
  · subst h48
    by_cases h0 : 0 ≤ v
    · by_cases h2 : v < 4096
      · have e : immB 48 s v = true := by simp [immB, h0, h2]
        rw [e]
        clear e
        go_enter Tryd.func39, Tryd.ntmps39
        go_wp2_with fail
        go_ret
        exact ⟨rfl, Grows.refl _⟩
      · have e : immB 48 s v = false := by simp [immB]; omega
        rw [e]
        clear e
        go_enter Tryd.func39, Tryd.ntmps39
        go_wp2_with fail
        go_ret
        exact ⟨rfl, Grows.refl _⟩
    · have e : immB 48 s v = false := by simp [immB]; omega
      rw [e]
      clear e
      have h0' : v < 0 := by omega
      go_enter Tryd.func39, Tryd.ntmps39
      go_wp2_with fail
      go_ret
      exact ⟨rfl, Grows.refl _⟩
  have e : immB op s v = if s = 2 ∨ s = 3 ∨ s = 4 then fitsB v 14 else if s = 5 then fitsB v 18 else v == 0 := by
    unfold immB
    rw [if_neg (by omega), if_neg (by omega)]
  rw [e]
  clear e
  have b18 : (op == 18) = false := by simp [h18]
  have b19 : (op == 19) = false := by simp [h19]
  have b20 : (op == 20) = false := by simp [h20]
  have b46 : (op == 46) = false := by simp [h46]
  have b47 : (op == 47) = false := by simp [h47]
  have b48 : (op == 48) = false := by simp [h48]
  clear h18 h19 h20 h46 h47 h48
  by_cases h : s = 2 ∨ s = 3 ∨ s = 4
  · rw [if_pos h]
    rcases h with rfl | rfl | rfl
    all_goals
      go_enter Tryd.func39, Tryd.ntmps39
      go_wp2_with fail
      refine (fits_any _ _ _).mono ?_
      rintro _ w1 ⟨rfl, g1, rfl⟩
      go_wp2_with fail
      go_ret
      exact ⟨rfl, Grows.of _ _⟩
  · rw [if_neg h]
    by_cases h5 : s = 5
    · rw [if_pos h5]
      subst h5
      go_enter Tryd.func39, Tryd.ntmps39
      go_wp2_with fail
      refine (fits_any _ _ _).mono ?_
      rintro _ w1 ⟨rfl, g1, rfl⟩
      go_wp2_with fail
      go_ret
      exact ⟨rfl, Grows.of _ _⟩
    · rw [if_neg h5]
      have c2 : (s == 2) = false := by simp; omega
      have c3 : (s == 3) = false := by simp; omega
      have c4 : (s == 4) = false := by simp; omega
      have c5 : (s == 5) = false := by simp; omega
      clear h h5
      go_enter Tryd.func39, Tryd.ntmps39
      go_wp2_with fail
      go_ret
      exact ⟨rfl, Grows.refl _⟩
end Go.Proofs.YtjbgamifkgeodaaDoor
