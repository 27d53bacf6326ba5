/- What Shape, reg, imm and Valid of the reference of the package insn compute. -/
import Derived.Test.YtjbgamifkgeodaaDoorInsn
import Derived.Test.YtjbgamifkgeodaaDoorCell
import Derived.Deep.DeepCutAuto
namespace Go.Proofs.YtjbgamifkgeodaaDoor
open Go Go.RowKit
set_option linter.unusedSimpArgs false
set_option linter.unusedVariables false
set_option maxHeartbeats 2000000 in
theorem rshape_any (op : Int) (w : World) :
    Calls Tryd.prog 21 #[.int .i64 op] w fun r w' => r = .returned (.int .i64 (shapeZ op)) ∧ Grows w w' := by
  have hall : (op < 1) ∨ (1 ≤ op ∧ op ≤ 13) ∨ (14 ≤ op ∧ op ≤ 21) ∨ (op = 22) ∨ (23 ≤ op ∧ op ≤ 25) ∨ (26 ≤ op ∧ op ≤ 28) ∨ (29 ≤ op ∧ op ≤ 34) ∨ (op = 35) ∨ (op = 36) ∨ (37 ≤ op ∧ op ≤ 40) ∨ (41 ≤ op ∧ op ≤ 44) ∨ (op = 45) ∨ (46 ≤ op ∧ op ≤ 48) ∨ (48 < op) := by omega
  rcases hall with h | h | h | h | h | h | h | h | h | h | h | h | h | h
  · have e : shapeZ op = -1 := by unfold shapeZ; repeat (first | rw [if_pos (by omega)] | rw [if_neg (by omega)])
    rw [e]
    clear e
    have b22 : (op == 22) = false := by rw [beq_eq_false_iff_ne]; omega
    have b35 : (op == 35) = false := by rw [beq_eq_false_iff_ne]; omega
    have b36 : (op == 36) = false := by rw [beq_eq_false_iff_ne]; omega
    have b45 : (op == 45) = false := by rw [beq_eq_false_iff_ne]; omega
    go_enter Tryd.func21, Tryd.ntmps21
    go_wp2_with fail
    go_ret
    exact ⟨rfl, Grows.refl _⟩
  · have e : shapeZ op = 1 := by unfold shapeZ; repeat (first | rw [if_pos (by omega)] | rw [if_neg (by omega)])
    rw [e]
    clear e
    have b22 : (op == 22) = false := by rw [beq_eq_false_iff_ne]; omega
    have b35 : (op == 35) = false := by rw [beq_eq_false_iff_ne]; omega
    have b36 : (op == 36) = false := by rw [beq_eq_false_iff_ne]; omega
    have b45 : (op == 45) = false := by rw [beq_eq_false_iff_ne]; omega
    obtain ⟨l1, l2⟩ := h
    go_enter Tryd.func21, Tryd.ntmps21
    go_wp2_with fail
    go_ret
    exact ⟨rfl, Grows.refl _⟩
  · have e : shapeZ op = 2 := by unfold shapeZ; repeat (first | rw [if_pos (by omega)] | rw [if_neg (by omega)])
    rw [e]
    clear e
    have b22 : (op == 22) = false := by rw [beq_eq_false_iff_ne]; omega
    have b35 : (op == 35) = false := by rw [beq_eq_false_iff_ne]; omega
    have b36 : (op == 36) = false := by rw [beq_eq_false_iff_ne]; omega
    have b45 : (op == 45) = false := by rw [beq_eq_false_iff_ne]; omega
    obtain ⟨l1, l2⟩ := h
    go_enter Tryd.func21, Tryd.ntmps21
    go_wp2_with fail
    go_ret
    exact ⟨rfl, Grows.refl _⟩
  · subst h
    go_enter Tryd.func21, Tryd.ntmps21
    go_wp2_with fail
    go_ret
    exact ⟨rfl, Grows.refl _⟩
  · have e : shapeZ op = 2 := by unfold shapeZ; repeat (first | rw [if_pos (by omega)] | rw [if_neg (by omega)])
    rw [e]
    clear e
    have b22 : (op == 22) = false := by rw [beq_eq_false_iff_ne]; omega
    have b35 : (op == 35) = false := by rw [beq_eq_false_iff_ne]; omega
    have b36 : (op == 36) = false := by rw [beq_eq_false_iff_ne]; omega
    have b45 : (op == 45) = false := by rw [beq_eq_false_iff_ne]; omega
    obtain ⟨l1, l2⟩ := h
    go_enter Tryd.func21, Tryd.ntmps21
    go_wp2_with fail
    go_ret
    exact ⟨rfl, Grows.refl _⟩
  · have e : shapeZ op = 3 := by unfold shapeZ; repeat (first | rw [if_pos (by omega)] | rw [if_neg (by omega)])
    rw [e]
    clear e
    have b22 : (op == 22) = false := by rw [beq_eq_false_iff_ne]; omega
    have b35 : (op == 35) = false := by rw [beq_eq_false_iff_ne]; omega
    have b36 : (op == 36) = false := by rw [beq_eq_false_iff_ne]; omega
    have b45 : (op == 45) = false := by rw [beq_eq_false_iff_ne]; omega
    obtain ⟨l1, l2⟩ := h
    go_enter Tryd.func21, Tryd.ntmps21
    go_wp2_with fail
    go_ret
    exact ⟨rfl, Grows.refl _⟩
  · have e : shapeZ op = 4 := by unfold shapeZ; repeat (first | rw [if_pos (by omega)] | rw [if_neg (by omega)])
    rw [e]
    clear e
    have b22 : (op == 22) = false := by rw [beq_eq_false_iff_ne]; omega
    have b35 : (op == 35) = false := by rw [beq_eq_false_iff_ne]; omega
    have b36 : (op == 36) = false := by rw [beq_eq_false_iff_ne]; omega
    have b45 : (op == 45) = false := by rw [beq_eq_false_iff_ne]; omega
    obtain ⟨l1, l2⟩ := h
    go_enter Tryd.func21, Tryd.ntmps21
    go_wp2_with fail
    go_ret
    exact ⟨rfl, Grows.refl _⟩
  · subst h
    go_enter Tryd.func21, Tryd.ntmps21
    go_wp2_with fail
    go_ret
    exact ⟨rfl, Grows.refl _⟩
  · subst h
    go_enter Tryd.func21, Tryd.ntmps21
    go_wp2_with fail
    go_ret
    exact ⟨rfl, Grows.refl _⟩
  · have e : shapeZ op = 1 := by unfold shapeZ; repeat (first | rw [if_pos (by omega)] | rw [if_neg (by omega)])
    rw [e]
    clear e
    have b22 : (op == 22) = false := by rw [beq_eq_false_iff_ne]; omega
    have b35 : (op == 35) = false := by rw [beq_eq_false_iff_ne]; omega
    have b36 : (op == 36) = false := by rw [beq_eq_false_iff_ne]; omega
    have b45 : (op == 45) = false := by rw [beq_eq_false_iff_ne]; omega
    obtain ⟨l1, l2⟩ := h
    go_enter Tryd.func21, Tryd.ntmps21
    go_wp2_with fail
    go_ret
    exact ⟨rfl, Grows.refl _⟩
  · have e : shapeZ op = 0 := by unfold shapeZ; repeat (first | rw [if_pos (by omega)] | rw [if_neg (by omega)])
    rw [e]
    clear e
    have b22 : (op == 22) = false := by rw [beq_eq_false_iff_ne]; omega
    have b35 : (op == 35) = false := by rw [beq_eq_false_iff_ne]; omega
    have b36 : (op == 36) = false := by rw [beq_eq_false_iff_ne]; omega
    have b45 : (op == 45) = false := by rw [beq_eq_false_iff_ne]; omega
    obtain ⟨l1, l2⟩ := h
    go_enter Tryd.func21, Tryd.ntmps21
    go_wp2_with fail
    go_ret
    exact ⟨rfl, Grows.refl _⟩
  · subst h
    go_enter Tryd.func21, Tryd.ntmps21
    go_wp2_with fail
    go_ret
    exact ⟨rfl, Grows.refl _⟩
  · have e : shapeZ op = 2 := by unfold shapeZ; repeat (first | rw [if_pos (by omega)] | rw [if_neg (by omega)])
    rw [e]
    clear e
    have b22 : (op == 22) = false := by rw [beq_eq_false_iff_ne]; omega
    have b35 : (op == 35) = false := by rw [beq_eq_false_iff_ne]; omega
    have b36 : (op == 36) = false := by rw [beq_eq_false_iff_ne]; omega
    have b45 : (op == 45) = false := by rw [beq_eq_false_iff_ne]; omega
    obtain ⟨l1, l2⟩ := h
    go_enter Tryd.func21, Tryd.ntmps21
    go_wp2_with fail
    go_ret
    exact ⟨rfl, Grows.refl _⟩
  · have e : shapeZ op = -1 := by unfold shapeZ; repeat (first | rw [if_pos (by omega)] | rw [if_neg (by omega)])
    rw [e]
    clear e
    have b22 : (op == 22) = false := by rw [beq_eq_false_iff_ne]; omega
    have b35 : (op == 35) = false := by rw [beq_eq_false_iff_ne]; omega
    have b36 : (op == 36) = false := by rw [beq_eq_false_iff_ne]; omega
    have b45 : (op == 45) = false := by rw [beq_eq_false_iff_ne]; omega
    go_enter Tryd.func21, Tryd.ntmps21
    go_wp2_with fail
    go_ret
    exact ⟨rfl, Grows.refl _⟩
theorem rreg_any (n : Int) (w : World) :
    Calls Tryd.prog 29 #[.int .i64 n] w fun r w' => r = .returned (.bool (decide (0 ≤ n) && decide (n ≤ 15))) ∧ Grows w w' := by
  by_cases h : 0 ≤ n
  · by_cases h1 : n ≤ 15
    · go_enter Tryd.func29, Tryd.ntmps29
      go_wp2_with fail
      go_ret
      exact ⟨by simp [h, h1], Grows.refl _⟩
    · have h1' : 15 < n := by omega
      go_enter Tryd.func29, Tryd.ntmps29
      go_wp2_with fail
      go_ret
      exact ⟨by simp [h, h1], Grows.refl _⟩
  · have h' : n < 0 := by omega
    go_enter Tryd.func29, Tryd.ntmps29
    go_wp2_with fail
    go_ret
    exact ⟨by rw [decide_eq_false (show ¬ 0 ≤ n by omega)]; rfl, Grows.refl _⟩
end Go.Proofs.YtjbgamifkgeodaaDoor
