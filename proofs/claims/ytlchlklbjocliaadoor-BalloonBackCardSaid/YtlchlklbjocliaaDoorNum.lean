/- Plain arithmetic of words: masks, fields, signs. No program. -/
import Derived.WalkKit
namespace Go
open Go.RowKit
set_option linter.unusedSimpArgs false
set_option linter.unusedVariables false
set_option maxRecDepth 100000

theorem two_pow_pos (n : Nat) : (0 : Int) < 2 ^ n := Int.pow_pos (by decide)
theorem two_pow_le {a b : Nat} (h : a ≤ b) : (2 : Int) ^ a ≤ 2 ^ b := by exact_mod_cast Nat.pow_le_pow_right (by decide) h
theorem two_pow_cast (n : Nat) : ((2 ^ n : Nat) : Int) = 2 ^ n := by simp
theorem wrap_u64_small {n : Int} (h0 : 0 ≤ n) (h1 : n < 18446744073709551616) : IntKind.u64.wrap n = n := by rw [IntKind.wrap_u64]; omega
theorem wrap_u32_small {n : Int} (h0 : 0 ≤ n) (h1 : n < 4294967296) : IntKind.u32.wrap n = n := by rw [IntKind.wrap_u32]; omega
theorem wrap64_small {n : Int} (h0 : -9223372036854775808 ≤ n) (h1 : n < 9223372036854775808) : wrap64 n = n := by unfold wrap64; omega
theorem pow64_lt {n : Nat} (h : n ≤ 63) : (2 : Int) ^ n ≤ 9223372036854775808 := two_pow_le (b := 63) h
theorem pow64_nat {n : Nat} (h : n ≤ 63) : 2 ^ n ≤ 9223372036854775808 := Nat.le_trans (Nat.pow_le_pow_right (by decide) h) (by decide : 2 ^ 63 ≤ 9223372036854775808)
theorem pow62_lt {n : Nat} (h : n ≤ 62) : (2 : Int) ^ n ≤ 4611686018427387904 := two_pow_le (b := 62) h

theorem mask_u64 {n : Nat} (h : n ≤ 63) : IntKind.u64.wrap (IntKind.u64.wrap (2 ^ n) - 1) = 2 ^ n - 1 := by
  have h1 := pow64_lt h
  have h2 := two_pow_pos n
  rw [wrap_u64_small (n := 2 ^ n) (by omega) (by omega), wrap_u64_small (by omega) (by omega)]
theorem mask_i64 {n : Nat} (h : n ≤ 63) : wrap64 (wrap64 (2 ^ n) - 1) = 2 ^ n - 1 := by
  by_cases h2 : n = 63
  · subst h2
    have e : (2 : Int) ^ 63 = 9223372036854775808 := by decide
    rw [e]; unfold wrap64; omega
  · have h1 := pow62_lt (n := n) (by omega)
    have h2 := two_pow_pos n
    rw [wrap64_small (n := 2 ^ n) (by omega) (by omega), wrap64_small (by omega) (by omega)]
theorem and_mask_u64 {x : Int} {n : Nat} (h0 : 0 ≤ x) (h1 : x < 18446744073709551616) (h : n ≤ 64) : bits .and .u64 x (2 ^ n - 1) = x % 2 ^ n :=
  bits_mask .u64 64 (by decide) (fun n h0 h1 => by rw [IntKind.wrap_u64]; omega) n h x h0 (by simpa using h1)
theorem and_mask_i64 {v : Int} {n : Nat} (h : n ≤ 63) : bits .and .i64 v (2 ^ n - 1) = v % 2 ^ n := by
  have hm := two_pow_pos n
  have hle := pow64_nat h
  have hq : (2 : Int) ^ n - 1 = ((2 ^ n - 1 : Nat) : Int) := by
    rw [Int.natCast_sub (Nat.two_pow_pos n)]; simp
  unfold bits
  rw [hq]
  simp only [BitVec.toNat_and]
  have e2 : (BitVec.ofInt IntKind.i64.bits ((2 ^ n - 1 : Nat) : Int)).toNat = 2 ^ n - 1 := by
    rw [BitVec.ofInt_natCast, BitVec.toNat_ofNat]
    exact Nat.mod_eq_of_lt (Nat.lt_of_lt_of_le (Nat.sub_lt (Nat.two_pow_pos n) (by decide)) (Nat.le_trans hle (by decide)))
  rw [e2, Nat.and_two_pow_sub_one_eq_mod]
  have e1 : ((BitVec.ofInt IntKind.i64.bits v).toNat : Int) = v % 18446744073709551616 := by
    rw [BitVec.toNat_ofInt]; show ((v % 18446744073709551616).toNat : Int) = _; omega
  have e3 : (((BitVec.ofInt IntKind.i64.bits v).toNat % 2 ^ n : Nat) : Int) = v % 2 ^ n := by
    rw [Int.natCast_emod, e1, two_pow_cast]
    exact Int.emod_emod_of_dvd v (by
      have : (18446744073709551616 : Int) = 2 ^ 64 := by decide
      rw [this]
      exact ⟨2 ^ (64 - n), by rw [← Int.pow_add]; congr 1; omega⟩)
  rw [e3]
  have h1 := Int.emod_nonneg v (b := 2 ^ n) (by omega)
  have h2 := Int.emod_lt_of_pos v hm
  have h3 := pow64_lt h
  rw [IntKind.wrap_i64]
  omega

/-- n bits with their sign. -/
def signZ (v : Int) (n : Nat) : Int := (v + 2 ^ (n - 1)) % 2 ^ n - 2 ^ (n - 1)
theorem pow_split {n : Nat} (h : 1 ≤ n) : (2 : Int) ^ n = 2 * 2 ^ (n - 1) := by
  obtain ⟨m, rfl⟩ : ∃ m, n = m + 1 := ⟨n - 1, by omega⟩
  rw [Int.pow_succ, Nat.add_sub_cancel]; omega
theorem mul_emod_mul_right' {a b c : Int} (h : 0 < c) : (a * c) % (b * c) = (a % b) * c := by
  rw [Int.mul_comm a c, Int.mul_comm b c, Int.mul_emod_mul_of_pos _ _ h, Int.mul_comm]
theorem sign_shift {v : Int} {n : Nat} (h1 : 1 ≤ n) (h2 : n ≤ 63) : wrap64 (v * 2 ^ (64 - n)) / 2 ^ (64 - n) = signZ v n := by
  have hP := two_pow_pos (64 - n)
  have hN : (2 : Int) ^ n * 2 ^ (64 - n) = 18446744073709551616 := by
    rw [← Int.pow_add]; have : n + (64 - n) = 64 := by omega
    rw [this]; decide
  have hH : (2 : Int) ^ (n - 1) * 2 ^ (64 - n) = 9223372036854775808 := by
    rw [← Int.pow_add]; have : n - 1 + (64 - n) = 63 := by omega
    rw [this]; decide
  unfold wrap64 signZ
  rw [← hN, ← hH, ← Int.add_mul, mul_emod_mul_right' hP, ← Int.sub_mul, Int.mul_ediv_cancel _ (by omega)]
theorem sign_mod {v : Int} {n : Nat} (h1 : 1 ≤ n) : signZ v n = if v % 2 ^ n / 2 ^ (n - 1) = 1 then v % 2 ^ n - 2 ^ (n - 1) - 2 ^ (n - 1) else v % 2 ^ n := by
  have hs := pow_split h1
  have hp := two_pow_pos (n - 1)
  unfold signZ
  generalize hH : (2 : Int) ^ (n - 1) = H at *
  rw [hs]
  have hm0 := Int.emod_nonneg v (b := 2 * H) (by omega)
  have hm1 := Int.emod_lt_of_pos v (b := 2 * H) (by omega)
  have he : (v + H) % (2 * H) = (v % (2 * H) + H) % (2 * H) := by rw [Int.emod_add_emod]
  rw [he]
  generalize v % (2 * H) = m at *
  by_cases hlt : m < H
  · rw [Int.emod_eq_of_lt (by omega) (by omega), if_neg]
    · omega
    · rw [Int.ediv_eq_zero_of_lt hm0 hlt]; decide
  · have h3 : (m + H) % (2 * H) = m - H := by
      have : m + H = (m - H) + 2 * H := by omega
      rw [this, Int.add_emod_right, Int.emod_eq_of_lt (by omega) (by omega)]
    have h4 : m / H = 1 := by
      have : m = (m - H) + H := by omega
      rw [this, Int.add_ediv_of_dvd_right (Int.dvd_refl H), Int.ediv_eq_zero_of_lt (by omega) (by omega), Int.ediv_self (by omega)]
      rfl
    rw [h3, if_pos h4]
theorem sign_fits {v : Int} {n : Nat} (h1 : 1 ≤ n) : (signZ v n = v) ↔ (-(2 ^ (n - 1)) ≤ v ∧ v ≤ 2 ^ (n - 1) - 1) := by
  have hs := pow_split h1
  have hp := two_pow_pos (n - 1)
  unfold signZ
  generalize hH : (2 : Int) ^ (n - 1) = H at *
  rw [hs]
  have hm0 := Int.emod_nonneg (v + H) (b := 2 * H) (by omega)
  have hm1 := Int.emod_lt_of_pos (v + H) (b := 2 * H) (by omega)
  constructor
  · intro h; omega
  · rintro ⟨h2, h3⟩
    rw [Int.emod_eq_of_lt (by omega) (by omega)]; omega

/-! Fields of a word. -/
theorem emod_mul' (x : Int) {a b : Int} (ha : 0 < a) (hb : 0 < b) : x % (a * b) = x % a + a * (x / a % b) := by
  have h1 := Int.mul_ediv_add_emod x a
  have h2 := Int.mul_ediv_add_emod (x / a) b
  have h3 := Int.mul_ediv_add_emod x (a * b)
  have h4 : x / (a * b) = x / a / b := (Int.ediv_ediv_of_nonneg (by omega)).symm
  rw [h4] at h3
  have h5 : a * b * (x / a / b) = a * (b * (x / a / b)) := Int.mul_assoc _ _ _
  have h6 : a * (x / a) = a * (b * (x / a / b)) + a * (x / a % b) := by rw [← Int.mul_add, h2]
  omega
theorem field_step (x : Int) (k m : Nat) : (x / 2 ^ (k + 1) % 2 ^ m) * 2 + x / 2 ^ k % 2 = x / 2 ^ k % 2 ^ (m + 1) := by
  have hp := two_pow_pos k
  have hm := two_pow_pos m
  have e1 : x / 2 ^ (k + 1) = x / 2 ^ k / 2 := by rw [Int.pow_succ, Int.ediv_ediv_of_nonneg (by omega)]
  rw [e1]
  generalize x / 2 ^ k = y
  rw [Int.pow_succ, Int.mul_comm ((2 : Int) ^ m) 2, emod_mul' _ (by decide) hm]
  omega
/-- One bit of a number with a sign. -/
def bitZ (v : Int) (i : Nat) : Bool := v / 2 ^ i % 2 == 1
/-- A word with one bit put. -/
def putBit (x j : Nat) (b : Bool) : Nat := (x &&& (4294967295 - 2 ^ j)) ||| (if b then 2 ^ j else 0)
/-- The lowest n bits of v, put into x from a on. -/
def placeN (x : Nat) (v : Int) (a : Nat) : Nat → Nat
  | 0 => x
  | n + 1 => putBit (placeN x v a n) (a + n) (bitZ v n)
theorem testBit_not32 {m : Nat} (h : m < 4294967296) (i : Nat) : (4294967295 - m).testBit i = (decide (i < 32) && !m.testBit i) := by
  have e : 4294967295 - m = 2 ^ 32 - (m + 1) := by omega
  rw [e, Nat.testBit_two_pow_sub_succ h]
theorem testBit_high32 {x : Nat} (h : x < 4294967296) {i : Nat} (hi : 32 ≤ i) : x.testBit i = false :=
  Nat.testBit_lt_two_pow (Nat.lt_of_lt_of_le h (Nat.pow_le_pow_right (by decide) hi : 2 ^ 32 ≤ 2 ^ i) )
theorem testBit_putBit {x j : Nat} {b : Bool} (hx : x < 4294967296) (hj : j < 32) (i : Nat) : (putBit x j b).testBit i = if i = j then b else x.testBit i := by
  unfold putBit
  have hp : 2 ^ j < 4294967296 := Nat.pow_lt_pow_right (a := 2) (by decide) hj
  rw [Nat.testBit_or, Nat.testBit_and, testBit_not32 hp, Nat.testBit_two_pow]
  by_cases h : i = j
  · subst h; cases b <;> simp
  · have h' : ¬ j = i := fun e => h e.symm
    by_cases h2 : i < 32
    · cases b <;> simp [h, h', h2]
    · have := testBit_high32 hx (i := i) (by omega)
      cases b <;> simp [h, h', this]
theorem putBit_lt {x j : Nat} {b : Bool} (hx : x < 4294967296) (hj : j < 32) : putBit x j b < 4294967296 := by
  unfold putBit
  have hp : 2 ^ j < 2 ^ 32 := Nat.pow_lt_pow_right (a := 2) (by decide) hj
  refine Nat.or_lt_two_pow (n := 32) (Nat.lt_of_le_of_lt Nat.and_le_left hx) ?_
  cases b
  · simp
  · simpa using hp
theorem placeN_lt {x : Nat} {v : Int} {a : Nat} (hx : x < 4294967296) : ∀ {n : Nat}, a + n ≤ 32 → placeN x v a n < 4294967296
  | 0, _ => hx
  | n + 1, h => putBit_lt (placeN_lt hx (by omega)) (by omega)
theorem testBit_placeN {x : Nat} {v : Int} {a : Nat} (hx : x < 4294967296) (i : Nat) : ∀ {n : Nat}, a + n ≤ 32 →
    (placeN x v a n).testBit i = if a ≤ i ∧ i < a + n then bitZ v (i - a) else x.testBit i
  | 0, _ => by rw [if_neg (by omega)]; rfl
  | n + 1, h => by
    unfold placeN
    rw [testBit_putBit (placeN_lt hx (by omega)) (by omega), testBit_placeN hx i (by omega)]
    by_cases e : i = a + n
    · subst e; rw [if_pos rfl, if_pos (by omega)]; congr 1; omega
    · rw [if_neg e]
      by_cases c : a ≤ i ∧ i < a + n
      · rw [if_pos c, if_pos (by omega)]
      · rw [if_neg c, if_neg (by omega)]
theorem testBit_u32 (v : Int) {i : Nat} (h : i < 32) : (v % 4294967296).toNat.testBit i = bitZ v i := by
  rw [Nat.testBit_eq_decide_div_mod_eq]
  unfold bitZ
  have e : ((v % 4294967296).toNat : Int) = v % 4294967296 := Int.toNat_of_nonneg (Int.emod_nonneg _ (by decide))
  have hp := two_pow_pos i
  have hq : (2 : Int) ^ i * 2 ^ (32 - i) = 4294967296 := by
    rw [← Int.pow_add]; have : i + (32 - i) = 32 := by omega
    rw [this]; decide
  have h2 : ((((v % 4294967296).toNat / 2 ^ i % 2 : Nat)) : Int) = v / 2 ^ i % 2 := by
    rw [Int.natCast_emod, Int.natCast_ediv, e, two_pow_cast, ← hq, emod_mul' _ hp (two_pow_pos _), Int.add_mul_ediv_left _ _ (by omega : (2 : Int) ^ i ≠ 0), Int.ediv_eq_zero_of_lt (Int.emod_nonneg _ (by omega)) (Int.emod_lt_of_pos _ hp), Int.zero_add]
    show v / 2 ^ i % 2 ^ (32 - i) % 2 = _
    exact Int.emod_emod_of_dvd _ ⟨2 ^ (32 - i - 1), by rw [← Int.pow_succ']; congr 1; omega⟩
  generalize (v % 4294967296).toNat / 2 ^ i % 2 = q at *
  rw [← h2]
  rcases Nat.lt_or_ge q 1 with h | h
  · have : q = 0 := by omega
    subst this; rfl
  · by_cases e1 : q = 1
    · subst e1; rfl
    · have e2 : ¬ ((q : Int) = 1) := by omega
      simp [e1, e2]
theorem place_mask {x : Nat} {v : Int} {a n : Nat} (hx : x < 4294967296) (h : a + n ≤ 32) :
    (x &&& (4294967295 - (2 ^ n - 1) * 2 ^ a)) ||| (((v % 4294967296).toNat * 2 ^ a % 4294967296) &&& ((2 ^ n - 1) * 2 ^ a)) = placeN x v a n := by
  have hm : (2 ^ n - 1) * 2 ^ a < 4294967296 := by
    have h1 : (2 ^ n - 1) * 2 ^ a < 2 ^ n * 2 ^ a := Nat.mul_lt_mul_of_pos_right (Nat.sub_lt (Nat.two_pow_pos n) (by decide)) (Nat.two_pow_pos a)
    rw [← Nat.pow_add] at h1
    exact Nat.lt_of_lt_of_le h1 (Nat.pow_le_pow_right (by decide) (by omega) : 2 ^ (n + a) ≤ 2 ^ 32)
  apply Nat.eq_of_testBit_eq
  intro i
  rw [testBit_placeN hx i h, Nat.testBit_or, Nat.testBit_and, Nat.testBit_and, testBit_not32 hm, Nat.testBit_mul_two_pow, Nat.testBit_two_pow_sub_one, show (4294967296 : Nat) = 2 ^ 32 from rfl, Nat.testBit_mod_two_pow, Nat.testBit_mul_two_pow]
  by_cases c : a ≤ i ∧ i < a + n
  · have h32 : i < 32 := by omega
    have hn : i - a < n := by omega
    rw [if_pos c]
    have := testBit_u32 v (i := i - a) (by omega)
    simp [c.1, hn, h32] 
    exact this
  · rw [if_neg c]
    have hc : (decide (i ≥ a) && decide (i - a < n)) = false := by
      simp; omega
    rw [hc]
    by_cases h32 : i < 32
    · simp [h32]
    · simp [h32, testBit_high32 hx (i := i) (by omega)]

theorem and63_u64 {b : Int} (h0 : 0 ≤ b) (h1 : b < 18446744073709551616) : bits .and .u64 b 63 = b % 64 := and_mask_u64 (n := 6) h0 h1 (by decide)
/-- A shift to the right with the sign, out of one without. -/
theorem shr_sign {a : Int} {n : Nat} (h0 : 9223372036854775808 ≤ a) (h1 : a < 18446744073709551616) (hn : n ≤ 63) :
    bits .or .u64 (a / 2 ^ n) (18446744073709551615 - 18446744073709551615 / 2 ^ n) = IntKind.u64.wrap ((a - 18446744073709551616) / 2 ^ n) := by
  have hP := two_pow_pos n
  have hQ := two_pow_pos (64 - n)
  have hPQ : (2 : Int) ^ (64 - n) * 2 ^ n = 18446744073709551616 := by
    rw [← Int.pow_add]; have : 64 - n + n = 64 := by omega
    rw [this]; decide
  have e1 : (18446744073709551615 : Int) / 2 ^ n = 2 ^ (64 - n) - 1 := by
    have : (18446744073709551615 : Int) = (2 ^ n - 1) + (2 ^ (64 - n) - 1) * 2 ^ n := by rw [Int.sub_mul, hPQ]; omega
    rw [this, Int.add_mul_ediv_right _ _ (by omega), Int.ediv_eq_zero_of_lt (by omega) (by omega), Int.zero_add]
  have e2 : (a - 18446744073709551616) / 2 ^ n = a / 2 ^ n - 2 ^ (64 - n) := by
    have : a - 18446744073709551616 = a + (-(2 ^ (64 - n))) * 2 ^ n := by rw [Int.neg_mul, hPQ]; omega
    rw [this, Int.add_mul_ediv_right _ _ (by omega)]; omega
  have hq0 : 0 ≤ a / 2 ^ n := Int.ediv_nonneg (by omega) (by omega)
  have hq1 : a / 2 ^ n < 2 ^ (64 - n) := Int.ediv_lt_of_lt_mul hP (by rw [hPQ]; exact h1)
  have hq2 : (2 : Int) ^ (64 - n) ≤ 18446744073709551616 := two_pow_le (b := 64) (by omega)
  rw [e1, e2]
  have e3 : (18446744073709551615 : Int) - (2 ^ (64 - n) - 1) = 18446744073709551616 - 2 ^ (64 - n) := by omega
  rw [e3]
  have e4 : (18446744073709551616 - (2 : Int) ^ (64 - n)) % 2 ^ (64 - n) = 0 := by
    rw [← hPQ]
    have : (2 : Int) ^ (64 - n) * 2 ^ n - 2 ^ (64 - n) = 2 ^ (64 - n) * (2 ^ n - 1) := by rw [Int.mul_sub]; omega
    rw [this, Int.mul_emod_right]
  have comm : bits .or .u64 (a / 2 ^ n) (18446744073709551616 - 2 ^ (64 - n)) = bits .or .u64 (18446744073709551616 - 2 ^ (64 - n)) (a / 2 ^ n) := by
    unfold bits; simp only [BitVec.or_comm]
  rw [comm]
  rw [bits_join .u64 64 (by decide) (fun n h0 h1 => by rw [IntKind.wrap_u64]; omega) (64 - n) _ _ (by omega) e4 (by omega) hq0 hq1 (by omega), IntKind.wrap_u64]
  omega
theorem or_zero_u64 {x : Int} (h0 : 0 ≤ x) (h1 : x < 18446744073709551616) : bits .or .u64 x 0 = x := by
  obtain ⟨X, rfl⟩ := Int.eq_ofNat_of_zero_le h0
  have := u64_or_nat X 0 (by omega) (by omega)
  simpa using this
theorem not_u64 {x : Int} (h0 : 0 ≤ x) (h1 : x < 18446744073709551616) : bits .xor .u64 IntKind.u64.max x = 18446744073709551615 - x := by
  obtain ⟨X, rfl⟩ := Int.eq_ofNat_of_zero_le h0
  have hm : IntKind.u64.max = ((18446744073709551615 : Nat) : Int) := by decide
  rw [hm, u64_xor_nat _ _ (by omega) (by omega)]
  have : 18446744073709551615 ^^^ X = 18446744073709551615 - X := by
    apply Nat.eq_of_testBit_eq
    intro i
    have e : 18446744073709551615 - X = 2 ^ 64 - (X + 1) := by omega
    have e2 : (18446744073709551615 : Nat) = 2 ^ 64 - 1 := by decide
    rw [e, Nat.testBit_two_pow_sub_succ (by omega), e2, Nat.testBit_xor, Nat.testBit_two_pow_sub_one]
    by_cases h : i < 64
    · simp [h]
    · have : X.testBit i = false := Nat.testBit_lt_two_pow (Nat.lt_of_lt_of_le (show X < 2 ^ 64 by omega) (Nat.pow_le_pow_right (by decide) (by omega)))
      simp [h, this]
  rw [this]
  omega

/-! Bytes, the lowest first. -/
/-- What bytes are as a number. -/
def leN : List Nat → Nat
  | [] => 0
  | x :: l => x + 256 * leN l
theorem leN_snoc (l : List Nat) (x : Nat) : leN (l ++ [x]) = leN l + x * 256 ^ l.length := by
  induction l with
  | nil => simp [leN]
  | cons y l ih =>
    simp only [List.cons_append, leN, ih, List.length_cons, Nat.pow_succ]
    have : 256 * (x * 256 ^ l.length) = x * (256 ^ l.length * 256) := by
      rw [Nat.mul_comm (256 ^ l.length) 256, ← Nat.mul_assoc, ← Nat.mul_assoc, Nat.mul_comm 256 x]
    omega
theorem leN_lt : ∀ {l : List Nat}, (∀ x ∈ l, x < 256) → leN l < 256 ^ l.length
  | [], _ => by simp [leN]
  | x :: l, h => by
    have h1 := leN_lt (l := l) (fun y hy => h y (by simp [hy]))
    have h2 := h x (by simp)
    simp only [leN, List.length_cons, Nat.pow_succ]
    omega
/-- A number's lowest n bytes. -/
def leB (v : Nat) : Nat → List Nat
  | 0 => []
  | n + 1 => v % 256 :: leB (v / 256) n
theorem leB_length (v n : Nat) : (leB v n).length = n := by
  induction n generalizing v with
  | zero => rfl
  | succ n ih => simp [leB, ih]
theorem leB_lt (v n : Nat) : ∀ x ∈ leB v n, x < 256 := by
  induction n generalizing v with
  | zero => intro x hx; cases hx
  | succ n ih =>
    intro x hx
    simp only [leB, List.mem_cons] at hx
    rcases hx with rfl | hx
    · exact Nat.mod_lt _ (by decide)
    · exact ih _ x hx
theorem leN_leB (v n : Nat) : leN (leB v n) = v % 256 ^ n := by
  induction n generalizing v with
  | zero => simp [leB, leN, Nat.mod_one]
  | succ n ih =>
    simp only [leB, leN, ih]
    rw [Nat.pow_succ, Nat.mul_comm (256 ^ n) 256, Nat.mod_mul]
theorem leB_leN : ∀ {l : List Nat}, (∀ x ∈ l, x < 256) → leB (leN l) l.length = l
  | [], _ => rfl
  | x :: l, h => by
    have h2 := h x (by simp)
    have h1 := leB_leN (l := l) (fun y hy => h y (by simp [hy]))
    simp only [leN, List.length_cons, leB]
    rw [show (x + 256 * leN l) % 256 = x by omega, show (x + 256 * leN l) / 256 = leN l by omega, h1]
theorem leB_get (v n i : Nat) (h : i < n) : (leB v n)[i]? = some (v / 256 ^ i % 256) := by
  induction n generalizing v i with
  | zero => omega
  | succ n ih =>
    cases i with
    | zero => simp [leB]
    | succ i =>
      simp only [leB, List.getElem?_cons_succ]
      rw [ih _ _ (by omega), Nat.pow_succ, Nat.mul_comm (256 ^ i) 256, Nat.div_div_eq_div_mul]
theorem leB_snoc (v n : Nat) : leB v (n + 1) = leB v n ++ [v / 256 ^ n % 256] := by
  induction n generalizing v with
  | zero => simp [leB]
  | succ n ih =>
    rw [leB, ih, leB, List.cons_append, Nat.div_div_eq_div_mul, ← Nat.pow_succ']
theorem or_byte {v x k : Nat} (hv : v < 256 ^ k) (hx : x < 256) (hk : k ≤ 7) :
    bits .or .u64 (v : Int) (IntKind.u64.wrap ((x : Int) * 2 ^ (8 * k))) = ((v + x * 256 ^ k : Nat) : Int) := by
  have e1 : (2 : Nat) ^ (8 * k) = 256 ^ k := by rw [Nat.pow_mul]
  have h256 : (256 : Nat) ^ k ≤ 256 ^ 7 := Nat.pow_le_pow_right (by decide) hk
  have h7 : (256 : Nat) ^ 7 = 72057594037927936 := by decide
  have hp : 0 < (256 : Nat) ^ k := Nat.pow_pos (by decide)
  have hxk : x * 256 ^ k ≤ 255 * 256 ^ k := Nat.mul_le_mul_right _ (by omega)
  have e2 : (x : Int) * 2 ^ (8 * k) = ((x * 256 ^ k : Nat) : Int) := by
    rw [Int.natCast_mul, ← e1, two_pow_cast]
  rw [e2, wrap_u64_small (by omega) (by omega), u64_or_nat _ _ (by omega) (by omega)]
  congr 1
  rw [Nat.or_comm, Nat.add_comm]
  exact nat_join (8 * k) _ _ (by rw [e1]; exact Nat.mul_mod_left _ _) (by rw [e1]; exact hv)
/-- Four bytes with their sign, as a word of eight. -/
def sx32 (v : Nat) : Nat := if v < 2147483648 then v else v + 18446744069414584320
theorem sx32_wrap {v : Nat} (h : v < 4294967296) : IntKind.u64.wrap (IntKind.i32.wrap (v : Int)) = (sx32 v : Nat) := by
  rw [IntKind.wrap_i32, IntKind.wrap_u64]
  unfold sx32
  split <;> omega
theorem sx32_walk {v : Nat} (h : v < 4294967296) : IntKind.u64.wrap (wrap64 (wrap32 (v : Int))) = (sx32 v : Nat) := by
  rw [IntKind.wrap_u64]
  unfold sx32 wrap64 wrap32
  split <;> omega
theorem pow256 : (256 : Nat) ^ 1 = 256 ∧ (256 : Nat) ^ 4 = 4294967296 ∧ (256 : Nat) ^ 8 = 18446744073709551616 := by decide
theorem testBit_emod (v : Int) (m : Nat) (i : Nat) : (v % 2 ^ m).toNat.testBit i = (decide (i < m) && bitZ v i) := by
  have hm := two_pow_pos m
  have e : ((v % 2 ^ m).toNat : Int) = v % 2 ^ m := Int.toNat_of_nonneg (Int.emod_nonneg _ (by omega))
  have hlt : (v % 2 ^ m).toNat < 2 ^ m := by
    have h1 := Int.emod_lt_of_pos v hm
    have h2 : ((v % 2 ^ m).toNat : Int) < ((2 ^ m : Nat) : Int) := by rw [e, two_pow_cast]; exact h1
    omega
  by_cases h : i < m
  · rw [Nat.testBit_eq_decide_div_mod_eq]
    unfold bitZ
    have hp := two_pow_pos i
    have hq : (2 : Int) ^ i * 2 ^ (m - i) = 2 ^ m := by rw [← Int.pow_add]; congr 1; omega
    have h2 : ((((v % 2 ^ m).toNat / 2 ^ i % 2 : Nat)) : Int) = v / 2 ^ i % 2 := by
      rw [Int.natCast_emod, Int.natCast_ediv, e, two_pow_cast, ← hq, emod_mul' _ hp (two_pow_pos _), Int.add_mul_ediv_left _ _ (by omega : (2 : Int) ^ i ≠ 0), Int.ediv_eq_zero_of_lt (Int.emod_nonneg _ (by omega)) (Int.emod_lt_of_pos _ hp), Int.zero_add]
      show v / 2 ^ i % 2 ^ (m - i) % 2 = _
      exact Int.emod_emod_of_dvd _ ⟨2 ^ (m - i - 1), by rw [← Int.pow_succ']; congr 1; omega⟩
    generalize (v % 2 ^ m).toNat / 2 ^ i % 2 = q at *
    rw [← h2]
    rcases Nat.lt_or_ge q 1 with h3 | h3
    · have : q = 0 := by omega
      subst this; simp
    · by_cases e1 : q = 1
      · subst e1; simp [h]
      · have e2 : ¬ ((q : Int) = 1) := by omega
        simp [e1, e2]
  · rw [Nat.testBit_lt_two_pow (Nat.lt_of_lt_of_le hlt (Nat.pow_le_pow_right (by decide) (by omega)))]
    simp [h]
/-- What is placed is the field. -/
theorem field_of_place {x : Nat} {v : Int} {a n : Nat} (hx : x < 4294967296) (h : a + n ≤ 32) : placeN x v a n / 2 ^ a % 2 ^ n = (v % 2 ^ n).toNat := by
  apply Nat.eq_of_testBit_eq
  intro i
  rw [testBit_emod, Nat.testBit_mod_two_pow, Nat.testBit_div_two_pow, testBit_placeN hx _ h]
  by_cases hi : i < n
  · rw [if_pos (by omega)]; simp [hi]
  · simp [hi]
/-- What lies outside is as it was. -/
theorem field_out_place {x : Nat} {v : Int} {a n b m : Nat} (hx : x < 4294967296) (h : a + n ≤ 32) (hb : b + m ≤ a ∨ a + n ≤ b) : placeN x v a n / 2 ^ b % 2 ^ m = x / 2 ^ b % 2 ^ m := by
  apply Nat.eq_of_testBit_eq
  intro i
  rw [Nat.testBit_mod_two_pow, Nat.testBit_div_two_pow, Nat.testBit_mod_two_pow, Nat.testBit_div_two_pow, testBit_placeN hx _ h]
  by_cases hi : i < m
  · rw [if_neg (by omega)]
  · simp [hi]
theorem nat_or_bit {v k : Nat} (h : v / 2 ^ k % 2 = 0) : v ||| 2 ^ k = v + 2 ^ k := by
  have hp : 0 < 2 ^ k := Nat.two_pow_pos k
  have e1 := Nat.div_add_mod v (2 ^ k)
  have e2 := Nat.div_add_mod (v / 2 ^ k) 2
  rw [h, Nat.add_zero] at e2
  have hr : v % 2 ^ k < 2 ^ k := Nat.mod_lt _ hp
  have e3 : v = 2 ^ (k + 1) * (v / 2 ^ k / 2) + v % 2 ^ k := by
    rw [Nat.pow_succ, Nat.mul_assoc, e2]; omega
  have e4 : v ||| 2 ^ k = 2 ^ (k + 1) * (v / 2 ^ k / 2) ||| (2 ^ k * 1 ||| v % 2 ^ k) := by
    conv => lhs; rw [e3, Nat.two_pow_add_eq_or_of_lt (i := k + 1) (by rw [Nat.pow_succ]; omega)]
    rw [Nat.or_assoc, Nat.mul_one, Nat.or_comm (v % 2 ^ k)]
  rw [e4, ← Nat.two_pow_add_eq_or_of_lt hr, ← Nat.two_pow_add_eq_or_of_lt (i := k + 1) (by rw [Nat.pow_succ]; omega)]
  omega
theorem or_bit_u64 {v k : Nat} (h : v / 2 ^ k % 2 = 0) (hv : v < 18446744073709551616) (hk : 2 ^ k < 18446744073709551616) : bits .or .u64 (v : Int) ((2 ^ k : Nat) : Int) = ((v + 2 ^ k : Nat) : Int) := by
  rw [u64_or_nat _ _ hv hk, nat_or_bit h]
end Go
