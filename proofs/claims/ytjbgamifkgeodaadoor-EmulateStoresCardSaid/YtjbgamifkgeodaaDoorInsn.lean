/- Instructions in plain numbers: shapes, what is valid, words. -/
import Derived.Test.YtjbgamifkgeodaaDoorWord
import Derived.Test.YtjbgamifkgeodaaDoorMap
namespace Go.Proofs.YtjbgamifkgeodaaDoor
open Go Go.RowKit
set_option linter.unusedSimpArgs false
set_option linter.unusedVariables false
theorem testBit_emod_nat (v : Int) (n i : Nat) : (v % 2 ^ n).toNat.testBit i = (decide (i < n) && bitZ v i) := testBit_emod v n i
/-- What a place holds, as a sum. -/
theorem placeN_sum {x : Nat} {v : Int} {a n : Nat} (hx : x < 4294967296) (h : a + n ≤ 32) :
    placeN x v a n = 2 ^ a * (2 ^ n * (x / 2 ^ (a + n)) + (v % 2 ^ n).toNat) + x % 2 ^ a := by
  apply Nat.eq_of_testBit_eq
  intro i
  have hy : (v % 2 ^ n).toNat < 2 ^ n := by
    have h0 := Int.emod_nonneg v (b := 2 ^ n) (by have := two_pow_pos n; omega)
    have h1 := Int.emod_lt_of_pos v (b := 2 ^ n) (two_pow_pos n)
    have := two_pow_cast n
    omega
  rw [testBit_placeN hx i h, Nat.testBit_two_pow_mul_add _ (Nat.mod_lt _ (Nat.two_pow_pos a)), Nat.testBit_two_pow_mul_add _ hy, Nat.testBit_mod_two_pow, Nat.testBit_div_two_pow, testBit_emod_nat]
  by_cases h1 : i < a
  · rw [if_neg (by omega), if_pos h1]; simp [h1]
  · rw [if_neg h1]
    by_cases h2 : i - a < n
    · rw [if_pos (by omega), if_pos h2]; simp [h2]
    · rw [if_neg (by omega), if_neg h2]; congr 1; omega
theorem placeZ_sum {x : Int} (v : Int) (a n : Nat) (h0 : 0 ≤ x) (h1 : x < 4294967296) (hn : 1 ≤ n) (h : a + n ≤ 32) :
    placeZ x v a n = 2 ^ a * (2 ^ n * (x / 2 ^ (a + n)) + v % 2 ^ n) + x % 2 ^ a := by
  obtain ⟨X, rfl⟩ := Int.eq_ofNat_of_zero_le h0
  unfold placeZ
  have hl : liesB a n = true := by simp [liesB]; omega
  rw [if_pos hl]
  have := placeN_sum (x := X) (v := v) (a := a) (n := n) (by omega) h
  simp only [Int.toNat_natCast]
  rw [this]
  have hy := Int.emod_nonneg v (b := 2 ^ n) (by have := two_pow_pos n; omega)
  simp only [Int.natCast_add, Int.natCast_mul, Int.natCast_ediv, Int.natCast_emod, two_pow_cast, Int.toNat_of_nonneg hy]
def shapeZ (op : Int) : Int :=
  if 1 ≤ op ∧ op ≤ 13 ∨ 37 ≤ op ∧ op ≤ 40 then 1
  else if 14 ≤ op ∧ op ≤ 21 ∨ 23 ≤ op ∧ op ≤ 25 ∨ op = 36 ∨ 46 ≤ op ∧ op ≤ 48 then 2
  else if 26 ≤ op ∧ op ≤ 28 then 3
  else if 29 ≤ op ∧ op ≤ 34 then 4
  else if op = 22 ∨ op = 35 then 5
  else if op = 45 then 6
  else if 41 ≤ op ∧ op ≤ 44 then 0
  else -1
def immB (op s v : Int) : Bool :=
  if 18 ≤ op ∧ op ≤ 20 then decide (0 ≤ v ∧ v < 64)
  else if 46 ≤ op ∧ op ≤ 48 then decide (0 ≤ v ∧ v < 4096)
  else if s = 2 ∨ s = 3 ∨ s = 4 then fitsB v 14
  else if s = 5 then fitsB v 18
  else v == 0
def regB (r : Int) (has : Bool) : Bool := decide (0 ≤ r) && decide (r ≤ 15) && (has || r == 0)
def validB (op rd r1 r2 v : Int) : Bool :=
  decide (0 ≤ shapeZ op) && immB op (shapeZ op) v && regB rd (shapeZ op == 1 || shapeZ op == 2 || shapeZ op == 5) && regB r1 (shapeZ op != 0 && shapeZ op != 5) && regB r2 (shapeZ op == 1 && op != 37 || shapeZ op == 3 || shapeZ op == 4)
/-- The word of an instruction that is valid. -/
def encW (op rd r1 r2 v : Int) : Int :=
  if shapeZ op = 5 then op * 67108864 + rd * 4194304 + v % 262144 else op * 67108864 + rd * 4194304 + r1 * 262144 + r2 * 16384 + v % 16384
theorem shapeZ_op {op : Int} (h : 0 ≤ shapeZ op) : 1 ≤ op ∧ op ≤ 48 := by
  unfold shapeZ at h
  repeat (split at h <;> first | omega | skip)
theorem shapeZ_range (op : Int) : -1 ≤ shapeZ op ∧ shapeZ op ≤ 6 := by
  unfold shapeZ
  repeat (split <;> first | omega | skip)
theorem validB_bounds {op rd r1 r2 v : Int} (h : validB op rd r1 r2 v = true) : 1 ≤ op ∧ op ≤ 48 ∧ 0 ≤ rd ∧ rd ≤ 15 ∧ 0 ≤ r1 ∧ r1 ≤ 15 ∧ 0 ≤ r2 ∧ r2 ≤ 15 ∧ (shapeZ op = 5 → r1 = 0 ∧ r2 = 0) ∧ 0 ≤ shapeZ op ∧ immB op (shapeZ op) v = true := by
  unfold validB regB at h
  simp only [Bool.and_eq_true, decide_eq_true_eq] at h
  obtain ⟨⟨⟨⟨h1, h2⟩, ⟨⟨h3, h4⟩, h5⟩⟩, ⟨⟨h6, h7⟩, h8⟩⟩, ⟨⟨h9, h10⟩, h11⟩⟩ := h
  have ho := shapeZ_op h1
  refine ⟨ho.1, ho.2, h3, h4, h6, h7, h9, h10, fun h5 => ?_, h1, h2⟩
  rw [h5] at h8 h11
  simp at h8 h11
  exact ⟨h8, h11⟩
theorem encW_lt {op rd r1 r2 v : Int} (h : validB op rd r1 r2 v = true) : 0 ≤ encW op rd r1 r2 v ∧ encW op rd r1 r2 v < 4294967296 := by
  obtain ⟨a1, a2, a3, a4, a5, a6, a7, a8, _⟩ := validB_bounds h
  unfold encW
  split <;> omega
/-- The reference's way: one place behind the other. -/
theorem enc_places {op rd r1 r2 v : Int} (h : validB op rd r1 r2 v = true) :
    (shapeZ op = 5 → placeZ (placeZ (placeZ 0 op 26 6) rd 22 4) v 0 18 = encW op rd r1 r2 v) ∧
    (shapeZ op ≠ 5 → placeZ (placeZ (placeZ (placeZ (placeZ 0 op 26 6) rd 22 4) r1 18 4) r2 14 4) v 0 14 = encW op rd r1 r2 v) := by
  obtain ⟨a1, a2, a3, a4, a5, a6, a7, a8, _⟩ := validB_bounds h
  have e1 : placeZ 0 op 26 6 = op * 67108864 := by
    have := placeZ_sum (x := 0) op 26 6 (by omega) (by omega) (by omega) (by omega)
    simp only [Int.reducePow, Nat.reduceAdd] at this
    rw [show placeZ 0 op 26 6 = placeZ 0 op (26 : Nat) (6 : Nat) from rfl, this]
    omega
  have e2 : placeZ (op * 67108864) rd 22 4 = op * 67108864 + rd * 4194304 := by
    have := placeZ_sum (x := op * 67108864) rd 22 4 (by omega) (by omega) (by omega) (by omega)
    simp only [Int.reducePow, Nat.reduceAdd] at this
    rw [show placeZ (op * 67108864) rd 22 4 = placeZ (op * 67108864) rd (22 : Nat) (4 : Nat) from rfl, this]
    omega
  rw [e1, e2]
  constructor
  · intro h5
    have := placeZ_sum (x := op * 67108864 + rd * 4194304) v 0 18 (by omega) (by omega) (by omega) (by omega)
    simp only [Int.reducePow, Nat.reduceAdd] at this
    rw [show placeZ (op * 67108864 + rd * 4194304) v 0 18 = placeZ (op * 67108864 + rd * 4194304) v (0 : Nat) (18 : Nat) from rfl, this]
    unfold encW
    rw [if_pos h5]
    omega
  · intro h5
    have e3 : placeZ (op * 67108864 + rd * 4194304) r1 18 4 = op * 67108864 + rd * 4194304 + r1 * 262144 := by
      have := placeZ_sum (x := op * 67108864 + rd * 4194304) r1 18 4 (by omega) (by omega) (by omega) (by omega)
      simp only [Int.reducePow, Nat.reduceAdd] at this
      rw [show placeZ (op * 67108864 + rd * 4194304) r1 18 4 = placeZ (op * 67108864 + rd * 4194304) r1 (18 : Nat) (4 : Nat) from rfl, this]
      omega
    have e4 : placeZ (op * 67108864 + rd * 4194304 + r1 * 262144) r2 14 4 = op * 67108864 + rd * 4194304 + r1 * 262144 + r2 * 16384 := by
      have := placeZ_sum (x := op * 67108864 + rd * 4194304 + r1 * 262144) r2 14 4 (by omega) (by omega) (by omega) (by omega)
      simp only [Int.reducePow, Nat.reduceAdd] at this
      rw [show placeZ (op * 67108864 + rd * 4194304 + r1 * 262144) r2 14 4 = placeZ (op * 67108864 + rd * 4194304 + r1 * 262144) r2 (14 : Nat) (4 : Nat) from rfl, this]
      omega
    rw [e3, e4]
    have := placeZ_sum (x := op * 67108864 + rd * 4194304 + r1 * 262144 + r2 * 16384) v 0 14 (by omega) (by omega) (by omega) (by omega)
    simp only [Int.reducePow, Nat.reduceAdd] at this
    rw [show placeZ (op * 67108864 + rd * 4194304 + r1 * 262144 + r2 * 16384) v 0 14 = placeZ (op * 67108864 + rd * 4194304 + r1 * 262144 + r2 * 16384) v (0 : Nat) (14 : Nat) from rfl, this]
    unfold encW
    rw [if_neg h5]
    omega
theorem or_u32 {a b : Nat} (k q : Nat) (ha : a = 2 ^ k * q) (hb : b < 2 ^ k) (hs : a + b < 4294967296) : bits .or .u32 (a : Int) (b : Int) = ((a + b : Nat) : Int) := by
  have h1 : a ||| b = a + b := by rw [ha, Nat.two_pow_add_eq_or_of_lt hb]
  have e : ∀ x : Nat, x < 4294967296 → (BitVec.ofInt 32 (x : Int)).toNat = x := by
    intro x hx
    rw [BitVec.ofInt_natCast, BitVec.toNat_ofNat]; exact Nat.mod_eq_of_lt hx
  show IntKind.u32.wrap ((BitVec.ofInt 32 (a : Int) ||| BitVec.ofInt 32 (b : Int)).toNat : Int) = _
  rw [BitVec.toNat_or, e a (by omega), e b (by omega), h1, IntKind.wrap_u32]
  omega
/-- The program's way: or, then one place. -/
theorem enc_or {op rd r1 r2 v : Int} (h : validB op rd r1 r2 v = true) :
    bits .or .u32 (bits .or .u32 (bits .or .u32 (op * 67108864) (rd * 4194304)) (r1 * 262144)) (r2 * 16384) = op * 67108864 + rd * 4194304 + r1 * 262144 + r2 * 16384 := by
  obtain ⟨a1, a2, a3, a4, a5, a6, a7, a8, _⟩ := validB_bounds h
  obtain ⟨o, rfl⟩ := Int.eq_ofNat_of_zero_le (show 0 ≤ op by omega)
  obtain ⟨d, rfl⟩ := Int.eq_ofNat_of_zero_le a3
  obtain ⟨s, rfl⟩ := Int.eq_ofNat_of_zero_le a5
  obtain ⟨t, rfl⟩ := Int.eq_ofNat_of_zero_le a7
  have e1 := or_u32 (a := o * 67108864) (b := d * 4194304) 26 o (by simp only [Nat.reducePow]; omega) (by simp only [Nat.reducePow]; omega) (by omega)
  have e2 := or_u32 (a := o * 67108864 + d * 4194304) (b := s * 262144) 22 (16 * o + d) (by simp only [Nat.reducePow]; omega) (by simp only [Nat.reducePow]; omega) (by omega)
  have e3 := or_u32 (a := o * 67108864 + d * 4194304 + s * 262144) (b := t * 16384) 18 (256 * o + 16 * d + s) (by simp only [Nat.reducePow]; omega) (by simp only [Nat.reducePow]; omega) (by omega)
  simp only [Int.natCast_mul, Int.natCast_add, Int.cast_ofNat_Int] at e1 e2 e3
  rw [e1, e2, e3]
theorem enc_place {op rd r1 r2 v : Int} (h : validB op rd r1 r2 v = true) :
    placeZ (op * 67108864 + rd * 4194304 + r1 * 262144 + r2 * 16384) v 0 (if shapeZ op = 5 then 18 else 14) = encW op rd r1 r2 v := by
  obtain ⟨a1, a2, a3, a4, a5, a6, a7, a8, a9, _⟩ := validB_bounds h
  unfold encW
  split
  · rename_i h5
    obtain ⟨rfl, rfl⟩ := a9 h5
    have := placeZ_sum (x := op * 67108864 + rd * 4194304 + 0 * 262144 + 0 * 16384) v 0 18 (by omega) (by omega) (by omega) (by omega)
    simp only [Int.reducePow, Nat.reduceAdd] at this
    rw [show placeZ (op * 67108864 + rd * 4194304 + 0 * 262144 + 0 * 16384) v 0 18 = placeZ (op * 67108864 + rd * 4194304 + 0 * 262144 + 0 * 16384) v (0 : Nat) (18 : Nat) from rfl, this]
    omega
  · have := placeZ_sum (x := op * 67108864 + rd * 4194304 + r1 * 262144 + r2 * 16384) v 0 14 (by omega) (by omega) (by omega) (by omega)
    simp only [Int.reducePow, Nat.reduceAdd] at this
    rw [show placeZ (op * 67108864 + rd * 4194304 + r1 * 262144 + r2 * 16384) v 0 14 = placeZ (op * 67108864 + rd * 4194304 + r1 * 262144 + r2 * 16384) v (0 : Nat) (14 : Nat) from rfl, this]
    omega
end Go.Proofs.YtjbgamifkgeodaaDoor
