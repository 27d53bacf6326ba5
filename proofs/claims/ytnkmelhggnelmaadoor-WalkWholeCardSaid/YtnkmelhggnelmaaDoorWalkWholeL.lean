/- The plain law of WalkWhole. -/
import Derived.Test.YtnkmelhggnelmaaDoorWkBoth
import Derived.Test.YtnkmelhggnelmaaDoorWkB
namespace Go.Proofs.YtnkmelhggnelmaaDoor
open Go Go.RowKit
set_option linter.unusedSimpArgs false
set_option linter.unusedVariables false
set_option maxRecDepth 100000
theorem load8 (V : Nat) (h : V < 18446744073709551616) : loadN (leB V 8) = V := by
  unfold loadN
  rw [if_neg (by rw [leB_length]; decide), leN_leB]
  exact Nat.mod_eq_of_lt h
theorem segB_same {B C : Nat → Nat} {a : Nat} : ∀ {n : Nat}, (∀ i, i < n → B (a + i) = C (a + i)) → segB B a n = segB C a n := by
  intro n h
  unfold segB
  exact List.map_congr_left (fun i hi => h i (List.mem_range.1 hi))
theorem gv_at {B : Nat → Nat} {a V : Nat} (h8 : a % 8 = 0) (ha : a + 8 ≤ 4096) (hV : V < 18446744073709551616) : gv 4096 (putB B a (leB V 8)) a = V := by
  unfold gv
  have h0 : numE 4096 a 8 = 0 := numE_zero (W := 8) (by decide) h8 ha
  rw [if_pos h0]
  have := segB_putB B a (leB V 8)
  rw [leB_length] at this
  rw [this]
  exact load8 V hV
theorem gv_out {B : Nat → Nat} {a b V : Nat} (h : b + 8 ≤ a ∨ a + 8 ≤ b) : gv 4096 (putB B a (leB V 8)) b = gv 4096 B b := by
  unfold gv
  rw [segB_same (fun i hi => putB_out B a _ (by rw [leB_length]; omega))]
theorem gv_zero (b : Nat) : gv 4096 (fun _ => 0) b = 0 := by
  unfold gv
  split
  · show loadN (segB (fun _ => 0) b 8) = 0
    have : segB (fun _ => 0) b 8 = List.replicate 8 0 := by
      unfold segB
      simp
      decide
    rw [this]
    decide
  · rfl
def wholeD (fx : Nat → Int) : Nat → SlotD
  | 0 => ⟨0, 0, true, false, false, false, false, false, false, 1, 0⟩
  | i + 1 => ⟨1, i, true, true, true, true, true, false, false, fx i % 256, 0⟩
theorem wholeA_0 (fx : Nat → Int) : slotA (wholeD fx 0) = 0 := by
  show ((0 : Int) % 16).toNat * 256 + 8 * ((0 : Int) % 32).toNat = 0
  decide
theorem wholeV_0 (fx : Nat → Int) : slotV (wholeD fx 0) = 1025 := by
  show (if packE true false false false false false false 1 = 0 ∧ (0 : Nat) = 0 then (packZ true false false false false false false 1).toNat else 0) = 1025
  decide
theorem wholeA_s (fx : Nat → Int) {i : Nat} (hi : i < 32) : slotA (wholeD fx (i + 1)) = 256 + 8 * i := by
  show ((1 : Int) % 16).toNat * 256 + 8 * ((i : Int) % 32).toNat = _
  omega
theorem wholeV_s (fx : Nat → Int) (i : Nat) : slotV (wholeD fx (i + 1)) = (fx i % 256).toNat * 1024 + 31 := by
  have h0 := Int.emod_nonneg (fx i) (show (256 : Int) ≠ 0 by decide)
  have h1 := Int.emod_lt_of_pos (fx i) (show (0 : Int) < 256 by decide)
  have hr : rightB true true true true true false false (fx i % 256) = true := by
    unfold rightB
    simp
    omega
  show (if packE true true true true true false false (fx i % 256) = 0 ∧ (0 : Nat) = 0 then (packZ true true true true true false false (fx i % 256)).toNat else 0) = _
  unfold packE packZ
  rw [hr]
  simp
  have : flagsN true true true true true false false = 31 := by decide
  rw [this]
  omega
theorem whole_0 (fx : Nat → Int) : ∀ m, m ≤ 32 → gv 4096 (bothB (wholeD fx) (m + 1)) 0 = 1025
  | 0, _ => by
    show gv 4096 (putB (fun _ => 0) (slotA (wholeD fx 0)) (leB (slotV (wholeD fx 0)) 8)) 0 = 1025
    rw [wholeA_0, wholeV_0]
    exact gv_at (by decide) (by decide) (by decide)
  | m + 1, h => by
    show gv 4096 (putB (bothB (wholeD fx) (m + 1)) (slotA (wholeD fx (m + 1))) (leB (slotV (wholeD fx (m + 1))) 8)) 0 = 1025
    rw [gv_out (by rw [wholeA_s fx (by omega)]; omega)]
    exact whole_0 fx m (by omega)
theorem whole_8 (fx : Nat → Int) : ∀ m, m ≤ 32 → gv 4096 (bothB (wholeD fx) (m + 1)) 8 = 0
  | 0, _ => by
    show gv 4096 (putB (fun _ => 0) (slotA (wholeD fx 0)) (leB (slotV (wholeD fx 0)) 8)) 8 = 0
    rw [gv_out (by rw [wholeA_0]; omega)]
    exact gv_zero 8
  | m + 1, h => by
    show gv 4096 (putB (bothB (wholeD fx) (m + 1)) (slotA (wholeD fx (m + 1))) (leB (slotV (wholeD fx (m + 1))) 8)) 8 = 0
    rw [gv_out (by rw [wholeA_s fx (by omega)]; omega)]
    exact whole_8 fx m (by omega)
theorem whole_p (fx : Nat → Int) {pg : Nat} (hp : pg < 32) : ∀ m, m ≤ 32 → gv 4096 (bothB (wholeD fx) (m + 1)) (256 + 8 * pg) = if pg < m then (fx pg % 256).toNat * 1024 + 31 else 0
  | 0, _ => by
    show gv 4096 (putB (fun _ => 0) (slotA (wholeD fx 0)) (leB (slotV (wholeD fx 0)) 8)) (256 + 8 * pg) = _
    rw [gv_out (by rw [wholeA_0]; omega), if_neg (by omega)]
    exact gv_zero _
  | m + 1, h => by
    show gv 4096 (putB (bothB (wholeD fx) (m + 1)) (slotA (wholeD fx (m + 1))) (leB (slotV (wholeD fx (m + 1))) 8)) (256 + 8 * pg) = _
    rw [wholeA_s fx (by omega), wholeV_s]
    have h1 := Int.emod_lt_of_pos (fx m) (show (0 : Int) < 256 by decide)
    by_cases e : pg = m
    · subst e
      rw [gv_at (by omega) (by omega) (by omega), if_pos (by omega)]
    · rw [gv_out (by omega), whole_p fx hp m (by omega)]
      by_cases h2 : pg < m
      · rw [if_pos h2, if_pos (by omega)]
      · rw [if_neg h2, if_neg (by omega)]
theorem entry_ok {n : Nat} (h : n < 256) : gok (n * 1024 + 31) = true ∧ ef (n * 1024 + 31) = n ∧ (∀ k, k < 5 → eb (n * 1024 + 31) k = true) ∧ leafV (n * 1024 + 31) = true := by
  have hd : ∀ n : Fin 256, gok (n.val * 1024 + 31) = true ∧ ef (n.val * 1024 + 31) = n.val ∧ (∀ k : Fin 5, eb (n.val * 1024 + 31) k.val = true) ∧ leafV (n.val * 1024 + 31) = true := by decide +kernel
  have := hd ⟨n, h⟩
  exact ⟨this.1, this.2.1, fun k hk => this.2.2.1 ⟨k, hk⟩, this.2.2.2⟩
theorem entry_root : gok 1025 = true ∧ ef 1025 = 1 ∧ leafV 1025 = false := by decide
/-- What a walk finds there. -/
theorem whole_one (fx : Nat → Int) {m a : Nat} (hm : m ≤ 32) (ha : a < 16384) {k : Int} (hk : k = 0 ∨ k = 1 ∨ k = 2) :
    oneV 4096 (bothB (wholeD fx) (m + 1)) 0 a k true = if a / 256 < m then some ((fx (a / 256) % 256).toNat * 1024 + 31) else none := by
  obtain ⟨r1, r2, r3⟩ := entry_root
  unfold oneV
  rw [if_pos ⟨by omega, by omega, by omega⟩]
  have hz : (0 : Int).toNat * 256 = 0 := by decide
  rw [hz, Nat.zero_add]
  by_cases hu : a < 8192
  · rw [show a / 8192 = 0 by omega, Nat.mul_zero, whole_0 fx m hm, if_pos ⟨r1, r3⟩, r2, show a / 256 % 32 = a / 256 by omega, Nat.one_mul, whole_p fx (by omega) m hm]
    by_cases hp : a / 256 < m
    · have h0 := Int.emod_nonneg (fx (a / 256)) (show (256 : Int) ≠ 0 by decide)
      have h1 := Int.emod_lt_of_pos (fx (a / 256)) (show (0 : Int) < 256 by decide)
      obtain ⟨e1, e2, e3, e4⟩ := entry_ok (n := (fx (a / 256) % 256).toNat) (by omega)
      rw [if_pos hp, if_pos ⟨e1, by unfold allowsV allowsB ok3; rw [e3 0 (by decide), e3 1 (by decide), e3 2 (by decide), e3 3 (by decide), e3 4 (by decide)]; rcases hk with rfl | rfl | rfl <;> rfl⟩, if_pos hp]
    · rw [if_neg hp, if_neg (by rw [gok0]; simp), if_neg hp]
  · rw [show a / 8192 = 1 by omega, show 8 * 1 = 8 by decide, whole_8 fx m hm, if_neg (by rw [gok0]; simp), if_neg (by omega)]
theorem none_one {N : Nat} {B : Nat → Nat} {a : Nat} {k : Int} : oneV N B (-1) a k true = none := by
  unfold oneV
  rw [if_neg (by omega)]
end Go.Proofs.YtnkmelhggnelmaaDoor
