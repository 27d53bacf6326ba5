/- Numbers in the memory of a lock; counting. -/
import Derived.Test.YtbiadhgkpggdeaaDoorTick
namespace Go.Proofs.YtbiadhgkpggdeaaDoor
open Go Go.RowKit
set_option linter.unusedSimpArgs false
set_option linter.unusedVariables false
theorem load8 (V : Nat) (h : V < 18446744073709551616) : loadN (leB V 8) = V := by
  unfold loadN
  rw [leB_length, if_neg (by decide), leN_leB, pow256.2.2]
  omega
theorem seg_put (B : Nat → Nat) (X V : Nat) : segB (putB B X (leB V 8)) X 8 = leB V 8 := by
  have := segB_putB B X (leB V 8)
  rwa [leB_length] at this
theorem numB_incB (B : Nat → Nat) (X : Nat) : numB (incB B X) X = inc64 (numB B X) := by
  unfold incB
  show loadN (segB _ X 8) = _
  rw [seg_put, load8 _ (inc64_lt _)]
theorem numB_other (B : Nat → Nat) (X Y V : Nat) (h : X + 8 ≤ Y ∨ Y + 8 ≤ X) : numB (putB B Y (leB V 8)) X = numB B X := by
  unfold numB
  rw [segB_congr fun i hi => putB_out _ _ _ (by rw [leB_length]; omega)]
theorem numB_incB_other (B : Nat → Nat) (X Y : Nat) (h : X + 8 ≤ Y ∨ Y + 8 ≤ X) : numB (incB B Y) X = numB B X := numB_other B X Y _ h
theorem numB_put (B : Nat → Nat) (X V : Nat) (h : V < 18446744073709551616) : numB (putB B X (leB V 8)) X = V := by
  unfold numB
  rw [seg_put, load8 V h]
theorem numB_zeros (B : Nat → Nat) (X k : Nat) (h : X + 8 ≤ k) (A : Nat) (hA : A ≤ X) : numB (putB B A (List.replicate (k - A) 0)) X = 0 := by
  unfold numB
  have e : segB (putB B A (List.replicate (k - A) 0)) X 8 = List.replicate 8 0 := by
    apply List.ext_getElem
    · simp [segB]
    · intro i h1 h2
      simp [segB] at h1
      simp only [segB, List.getElem_map, List.getElem_range, List.getElem_replicate]
      unfold putB
      rw [List.length_replicate, if_pos (by omega)]
      simp only [List.getD, List.getElem?_replicate]
      split <;> rfl
  rw [e]
  decide
theorem inc64_small {v : Nat} (h : v + 1 < 18446744073709551616) : inc64 v = v + 1 := Nat.mod_eq_of_lt h
theorem updN_same (f : Nat → Nat) (i v : Nat) : updN f i v i = v := by unfold updN; rw [if_pos rfl]
theorem updN_ne (f : Nat → Nat) {i j : Nat} (v : Nat) (h : j ≠ i) : updN f i v j = f j := by unfold updN; rw [if_neg h]
theorem updN_updN (f : Nat → Nat) (i u v : Nat) : updN (updN f i u) i v = updN f i v := by
  funext j; unfold updN; split <;> rfl
/-- How many below n. -/
def cnt (p : Nat → Bool) : Nat → Nat
  | 0 => 0
  | n + 1 => cnt p n + if p n then 1 else 0
theorem cnt_congr {p q : Nat → Bool} : ∀ {n : Nat}, (∀ i, i < n → p i = q i) → cnt p n = cnt q n
  | 0, _ => rfl
  | n + 1, h => by unfold cnt; rw [cnt_congr fun i hi => h i (by omega), h n (by omega)]
theorem cnt_full {p : Nat → Bool} : ∀ {n : Nat}, (∀ i, i < n → p i = true) → cnt p n = n
  | 0, _ => rfl
  | n + 1, h => by unfold cnt; rw [cnt_full fun i hi => h i (by omega), h n (by omega)]; rfl
theorem cnt_none {p : Nat → Bool} : ∀ {n : Nat}, (∀ i, i < n → p i = false) → cnt p n = 0
  | 0, _ => rfl
  | n + 1, h => by unfold cnt; rw [cnt_none fun i hi => h i (by omega), h n (by omega)]; rfl
theorem cnt_le {p : Nat → Bool} : ∀ {n : Nat}, cnt p n ≤ n
  | 0 => Nat.le_refl _
  | n + 1 => by unfold cnt; have := cnt_le (p := p) (n := n); split <;> omega
/-- One more. -/
theorem cnt_add {p q : Nat → Bool} {i : Nat} : ∀ {n : Nat}, i < n → (∀ j, j < n → j ≠ i → p j = q j) → p i = false → q i = true → cnt q n = cnt p n + 1
  | 0, h, _, _, _ => by omega
  | n + 1, h, hne, h0, h1 => by
    unfold cnt
    by_cases e : i = n
    · subst e
      rw [cnt_congr (p := q) (q := p) (fun j hj => (hne j (by omega) (by omega)).symm), h0, h1]; rfl
    · rw [cnt_add (by omega) (fun j hj hn => hne j (by omega) hn) h0 h1, hne n (by omega) (by omega)]; omega
end Go.Proofs.YtbiadhgkpggdeaaDoor
