/- What the numeric functions of the package word, and of its reference, compute: fields, places, signs, quotients, shifts, order. -/
import Derived.Test.YtjbgamifkgeodaaDoorProg
import Derived.Test.YtjbgamifkgeodaaDoorBase
import Derived.Test.YtjbgamifkgeodaaDoorNum
import Derived.OpenShut
import Derived.Lib.Hide
namespace Go.Proofs.YtjbgamifkgeodaaDoor
open Go Go.RowKit
set_option linter.unusedSimpArgs false
set_option linter.unusedVariables false
theorem within_any (x l m : Int) (w : World) :
    Calls Tryd.prog 34 #[.int .i64 x, .int .i64 l, .int .i64 m] w fun r w' => r = .returned (.bool (decide (l ≤ x) && decide (x ≤ m))) ∧ Grows w w' := by
  by_cases h : l ≤ x
  · go_enter Tryd.func34, Tryd.ntmps34
    go_wp2
    go_ret
    exact ⟨by simp [h], Grows.refl _⟩
  · go_enter Tryd.func34, Tryd.ntmps34
    go_wp2
    go_ret
    exact ⟨by simp [decide_eq_false (show ¬ l ≤ x by omega)], Grows.refl _⟩
def liesB (a n : Int) : Bool := decide (0 ≤ a) && decide (1 ≤ n) && decide (a + n ≤ 32)
theorem liesB_true {a n : Int} (h : liesB a n = true) : 0 ≤ a ∧ 1 ≤ n ∧ a + n ≤ 32 := by simp [liesB] at h; omega
theorem liesB_false {a n : Int} (h : liesB a n = false) : a < 0 ∨ n < 1 ∨ 32 < a + n := by simp [liesB] at h; omega
theorem lies_any (a n : Int) (w : World) :
    Calls Tryd.prog 31 #[.int .i64 a, .int .i64 n] w fun r w' => r = .returned (.bool (liesB a n)) ∧ Grows w w' := by
  by_cases h1 : 0 ≤ a ∧ a ≤ 31
  · by_cases h2 : 1 ≤ n ∧ n ≤ 32
    · have e1 : (decide (0 ≤ a) && decide (a ≤ 31)) = true := by simp [h1]
      have e2 : (decide (1 ≤ n) && decide (n ≤ 32)) = true := by simp [h2]
      go_enter Tryd.func31, Tryd.ntmps31
      go_wp2_with fail
      refine (within_any _ _ _ _).mono ?_
      rintro _ w1 ⟨rfl, g1, rfl⟩
      rw [e1]
      go_wp2_with fail
      refine (within_any _ _ _ _).mono ?_
      rintro _ w1 ⟨rfl, g2, rfl⟩
      rw [e2]
      go_wp2_with fail
      go_ret
      exact ⟨by simp [liesB, h1.1, h2.1], Grows.of _ _⟩
    · have e1 : (decide (0 ≤ a) && decide (a ≤ 31)) = true := by simp [h1]
      have e2 : (decide (1 ≤ n) && decide (n ≤ 32)) = false := by simp; omega
      go_enter Tryd.func31, Tryd.ntmps31
      go_wp2_with fail
      refine (within_any _ _ _ _).mono ?_
      rintro _ w1 ⟨rfl, g1, rfl⟩
      rw [e1]
      go_wp2_with fail
      refine (within_any _ _ _ _).mono ?_
      rintro _ w1 ⟨rfl, g2, rfl⟩
      rw [e2]
      go_wp2_with fail
      go_ret
      exact ⟨by simp [liesB]; omega, Grows.of _ _⟩
  · have e1 : (decide (0 ≤ a) && decide (a ≤ 31)) = false := by simp; omega
    go_enter Tryd.func31, Tryd.ntmps31
    go_wp2_with fail
    refine (within_any _ _ _ _).mono ?_
    rintro _ w1 ⟨rfl, g1, rfl⟩
    rw [e1]
    go_wp2_with fail
    go_ret
    exact ⟨by simp [liesB]; omega, Grows.of _ _⟩
theorem mask_any (n : Int) (w : World) (h0 : 0 ≤ n) (h1 : n ≤ 63) :
    Calls Tryd.prog 32 #[.int .i64 n] w fun r w' => r = .returned (.int .u64 (2 ^ n.toNat - 1)) ∧ Grows w w' := by
  go_enter Tryd.func32, Tryd.ntmps32
  go_wp2
  go_ret
  refine ⟨?_, Grows.refl _⟩
  have := mask_u64 (n := n.toNat) (by omega)
  simp [this]
def fieldZ (x a n : Int) : Int := if liesB a n then x / 2 ^ a.toNat % 2 ^ n.toNat else 0
theorem field_lt (x a n : Int) : 0 ≤ fieldZ x a n ∧ fieldZ x a n < 4294967296 := by
  unfold fieldZ
  split
  · rename_i h
    have hl := liesB_true h
    have hp := two_pow_pos n.toNat
    have h2 : (2 : Int) ^ n.toNat ≤ 2 ^ 32 := two_pow_le (by omega)
    have h3 := Int.emod_nonneg (x / 2 ^ a.toNat) (b := 2 ^ n.toNat) (by omega)
    have h4 := Int.emod_lt_of_pos (x / 2 ^ a.toNat) hp
    have h5 : (2 : Int) ^ 32 = 4294967296 := by decide
    omega
  · omega
theorem shr_lt {x : Int} (k : Nat) (h0 : 0 ≤ x) (h1 : x < 4294967296) : 0 ≤ x / 2 ^ k ∧ x / 2 ^ k < 4294967296 := by
  have hp := two_pow_pos k
  exact ⟨Int.ediv_nonneg h0 (by omega), Int.lt_of_le_of_lt (Int.ediv_le_self _ h0) h1⟩
theorem field_any (x a n : Int) (w : World) (hx : 0 ≤ x ∧ x < 4294967296) :
    Calls Tryd.prog 22 #[.int .u32 x, .int .i64 a, .int .i64 n] w fun r w' => r = .returned (.int .i64 (fieldZ x a n)) ∧ Grows w w' := by
  cases hl : liesB a n
  · go_enter Tryd.func22, Tryd.ntmps22
    go_wp2_with fail
    refine (lies_any _ _ _).mono ?_
    rintro _ w1 ⟨rfl, g1, rfl⟩
    rw [hl]
    go_wp2_with fail
    go_ret
    exact ⟨by simp [fieldZ, hl], Grows.of _ _⟩
  · obtain ⟨b0, b1, b2⟩ := liesB_true hl
    obtain ⟨x0, x1⟩ := hx
    go_enter Tryd.func22, Tryd.ntmps22
    go_wp2_with fail
    refine (lies_any _ _ _).mono ?_
    rintro _ w1 ⟨rfl, g1, rfl⟩
    rw [hl]
    go_wp2_with fail
    refine wp_region_grow (by kernel_rfl) (by kernel_rfl) ?_
    repeat (go_big_quiet_step ((go_at_call 32; first | exact Calls.quiet_grow (mask_any _ _ (by omega) (by omega)) | exact Calls.quiet_grow0 (mask_any _ _ (by omega) (by omega)))))
    refine wpQuiet_nil ?_
    intro _ hw'
    obtain ⟨g3, rfl⟩ := hw'
    go_wp2_with fail
    go_ret
    refine ⟨?_, (Grows.of _ _).grow _⟩
    have e0 : IntKind.u64.wrap x = x := wrap_u64_small x0 (by omega)
    have hq := shr_lt a.toNat x0 x1
    have e1 := and_mask_u64 (x := x / 2 ^ a.toNat) (n := n.toNat) hq.1 (by omega) (by omega)
    have h3 := field_lt x a n
    simp only [fieldZ, hl, if_true] at h3
    simp [e0, e1, fieldZ, hl]
    exact wrap64_small (by omega) (by omega)
def cutB (a n : Int) : Bool := decide (a < 0) || decide (31 < a) || decide (n < 1) || decide (32 < n) || decide (32 < a + n)
theorem rfield_any (x a n : Int) (w : World) (hx : 0 ≤ x ∧ x < 4294967296) :
    Calls Tryd.prog 26 #[.int .u32 x, .int .i64 a, .int .i64 n] w fun r w' => r = .returned (.int .i64 (fieldZ x a n)) ∧ Grows w w' := by
  cases hl : liesB a n
  · have hb := liesB_false hl
    by_cases h1 : a < 0
    · go_enter Tryd.func26, Tryd.ntmps26
      go_wp2_with fail
      go_ret
      exact ⟨by simp [fieldZ, hl], Grows.refl _⟩
    · by_cases h2 : 31 < a
      · go_enter Tryd.func26, Tryd.ntmps26
        go_wp2_with fail
        go_ret
        exact ⟨by simp [fieldZ, hl], Grows.refl _⟩
      · by_cases h3 : n < 1
        · go_enter Tryd.func26, Tryd.ntmps26
          go_wp2_with fail
          go_ret
          exact ⟨by simp [fieldZ, hl], Grows.refl _⟩
        · by_cases h4 : 32 < n
          · go_enter Tryd.func26, Tryd.ntmps26
            go_wp2_with fail
            go_ret
            exact ⟨by simp [fieldZ, hl], Grows.refl _⟩
          · have h5 : 32 < a + n := by omega
            go_enter Tryd.func26, Tryd.ntmps26
            go_wp2_with fail
            go_ret
            exact ⟨by simp [fieldZ, hl], Grows.refl _⟩
  · obtain ⟨b0, b1, b2⟩ := liesB_true hl
    obtain ⟨x0, x1⟩ := hx
    obtain ⟨A, rfl⟩ := Int.eq_ofNat_of_zero_le b0
    obtain ⟨N, rfl⟩ := Int.eq_ofNat_of_zero_le (show 0 ≤ n by omega)
    have HF : Hid (fieldZ x A N = x / 2 ^ A % 2 ^ N) := by show _ = _; simp [fieldZ, hl]
    clear hl
    have h1 : ¬ (A : Int) < 0 := by omega
    have h2 : ¬ (31 : Int) < A := by omega
    have h3 : ¬ (N : Int) < 1 := by omega
    have h4 : ¬ (32 : Int) < N := by omega
    have h5 : ¬ (32 : Int) < A + N := by omega
    go_enter Tryd.func26, Tryd.ntmps26
    go_wp2_with fail
    go_loop [7, 8] (fun v i => ∃ j m : Nat, j + m = N ∧ i = .int .i64 ((j : Int) - 1) ∧ v = .int .i64 (x / 2 ^ (A + j) % 2 ^ m)) (fun _ i => (intOf i + 1).toNat)
    case atStart => exact ⟨N, 0, by omega, rfl, by simp⟩
    case round =>
      obtain ⟨j, m, hj, rfl, rfl⟩ := hrel
      by_cases h0 : j = 0
      · subst h0
        have hm : m = N := by omega
        subst hm
        go_wp2_with fail
        go_ret
        exact ⟨by simp [HF.out], Grows.refl _⟩
      · obtain ⟨i, rfl⟩ : ∃ i, j = i + 1 := ⟨j - 1, by omega⟩
        have hv := Int.emod_nonneg (x / 2 ^ (A + (i + 1))) (b := 2 ^ m) (by have := two_pow_pos m; omega)
        have hv2 : x / 2 ^ (A + (i + 1)) % 2 ^ m < 2 ^ 31 := Int.lt_of_lt_of_le (Int.emod_lt_of_pos _ (two_pow_pos m)) (two_pow_le (by omega))
        have HS : Hid ((x / 2 ^ (A + (i + 1)) % 2 ^ m) * 2 + x / 2 ^ (A + i) % 2 = x / 2 ^ (A + i) % 2 ^ (m + 1)) := field_step x (A + i) m
        have hq := shr_lt (A + i) x0 x1
        generalize hV : x / 2 ^ (A + (i + 1)) % 2 ^ m = V at *
        have h31 : (2 : Int) ^ 31 = 2147483648 := by decide
        rw [h31] at hv2
        clear hV h31
        have ei : ((i + 1 : Nat) : Int) - 1 = (i : Int) := by omega
        rw [ei]
        clear ei
        go_wp2_with fail
        exact ⟨⟨i, m + 1, by omega, rfl, by rw [HS.out]⟩, by simp [intOf]⟩
def placeZ (x v a n : Int) : Int := if liesB a n then (placeN x.toNat v a.toNat n.toNat : Nat) else x
theorem place_lt {x : Int} (v a n : Int) (h0 : 0 ≤ x) (h1 : x < 4294967296) : 0 ≤ placeZ x v a n ∧ placeZ x v a n < 4294967296 := by
  unfold placeZ
  split
  · rename_i h
    have hl := liesB_true h
    have := placeN_lt (x := x.toNat) (v := v) (a := a.toNat) (by omega) (n := n.toNat) (by omega)
    omega
  · omega
theorem place_any (x v a n : Int) (w : World) (hx : 0 ≤ x ∧ x < 4294967296) :
    Calls Tryd.prog 36 #[.int .u32 x, .int .i64 v, .int .i64 a, .int .i64 n] w fun r w' => r = .returned (.int .u32 (placeZ x v a n)) ∧ Grows w w' := by
  cases hl : liesB a n
  · go_enter Tryd.func36, Tryd.ntmps36
    go_wp2_with fail
    refine (lies_any _ _ _).mono ?_
    rintro _ w1 ⟨rfl, g1, rfl⟩
    rw [hl]
    go_wp2_with fail
    go_ret
    exact ⟨by simp [placeZ, hl], Grows.of _ _⟩
  · obtain ⟨b0, b1, b2⟩ := liesB_true hl
    obtain ⟨x0, x1⟩ := hx
    go_enter Tryd.func36, Tryd.ntmps36
    go_wp2_with fail
    refine (lies_any _ _ _).mono ?_
    rintro _ w1 ⟨rfl, g1, rfl⟩
    rw [hl]
    go_wp2_with fail
    refine (mask_any _ _ (by omega) (by omega)).mono ?_
    rintro _ w1 ⟨rfl, g2, rfl⟩
    go_wp2_with fail
    go_ret
    refine ⟨?_, Grows.of _ _⟩
    obtain ⟨X, rfl⟩ := Int.eq_ofNat_of_zero_le x0
    obtain ⟨A, rfl⟩ := Int.eq_ofNat_of_zero_le b0
    obtain ⟨N, rfl⟩ := Int.eq_ofNat_of_zero_le (show 0 ≤ n by omega)
    have hm : (2 ^ N - 1) * 2 ^ A < 4294967296 := by
      have h1 : (2 ^ N - 1) * 2 ^ A < 2 ^ N * 2 ^ A := Nat.mul_lt_mul_of_pos_right (Nat.sub_lt (Nat.two_pow_pos N) (by decide)) (Nat.two_pow_pos A)
      rw [← Nat.pow_add] at h1
      exact Nat.lt_of_lt_of_le h1 (Nat.pow_le_pow_right (by decide) (by omega) : 2 ^ (N + A) ≤ 2 ^ 32)
    have em : ((2 : Int) ^ N - 1) * 2 ^ A = (((2 ^ N - 1) * 2 ^ A : Nat) : Int) := by
      rw [Int.natCast_mul, Int.natCast_sub (Nat.two_pow_pos N)]; simp
    have ev : v % 4294967296 * 2 ^ A % 4294967296 = (((v % 4294967296).toNat * 2 ^ A % 4294967296 : Nat) : Int) := by
      rw [Int.natCast_emod, Int.natCast_mul, Int.toNat_of_nonneg (Int.emod_nonneg _ (by decide))]; simp
    have ew : IntKind.u64.wrap (((2 ^ N - 1) * 2 ^ A : Nat) : Int) % 4294967296 = (((2 ^ N - 1) * 2 ^ A : Nat) : Int) := by
      rw [wrap_u64_small (by omega) (by omega), Int.emod_eq_of_lt (by omega) (by omega)]
    simp [placeZ, hl]
    rw [em, ew, ev, u32_andNot_nat _ _ (by omega) (by omega), u32_and_nat _ _ (Nat.mod_lt _ (by decide)) (by omega),
      u32_or_nat _ _ (Nat.lt_of_le_of_lt Nat.and_le_left (by omega)) (Nat.lt_of_le_of_lt Nat.and_le_left (Nat.mod_lt _ (by decide))), place_mask (by omega) (by omega)]
theorem rplace_no (x v a n : Int) (w : World) (hl : liesB a n = false) :
    Calls Tryd.prog 20 #[.int .u32 x, .int .i64 v, .int .i64 a, .int .i64 n] w fun r w' => r = .returned (.int .u32 (placeZ x v a n)) ∧ Grows w w' := by
  have hb := liesB_false hl
  by_cases h1 : a < 0
  · go_enter Tryd.func20, Tryd.ntmps20
    go_wp2_with fail
    go_ret
    exact ⟨by simp [placeZ, hl], Grows.refl _⟩
  · by_cases h2 : 31 < a
    · go_enter Tryd.func20, Tryd.ntmps20
      go_wp2_with fail
      go_ret
      exact ⟨by simp [placeZ, hl], Grows.refl _⟩
    · by_cases h3 : n < 1
      · go_enter Tryd.func20, Tryd.ntmps20
        go_wp2_with fail
        go_ret
        exact ⟨by simp [placeZ, hl], Grows.refl _⟩
      · by_cases h4 : 32 < n
        · go_enter Tryd.func20, Tryd.ntmps20
          go_wp2_with fail
          go_ret
          exact ⟨by simp [placeZ, hl], Grows.refl _⟩
        · have h5 : 32 < a + n := by omega
          go_enter Tryd.func20, Tryd.ntmps20
          go_wp2_with fail
          go_ret
          exact ⟨by simp [placeZ, hl], Grows.refl _⟩
theorem rplace_yes (X A N : Nat) (v : Int) (w : World) (hx : X < 4294967296) (hn : 1 ≤ N) (han : A + N ≤ 32) :
    Calls Tryd.prog 20 #[.int .u32 X, .int .i64 v, .int .i64 A, .int .i64 N] w fun r w' => r = .returned (.int .u32 (placeN X v A N : Nat)) ∧ Grows w w' := by
  have h1 : ¬ (A : Int) < 0 := by omega
  have h2 : ¬ (31 : Int) < A := by omega
  have h3 : ¬ (N : Int) < 1 := by omega
  have h4 : ¬ (32 : Int) < N := by omega
  have h5 : ¬ (32 : Int) < A + N := by omega
  go_enter Tryd.func20, Tryd.ntmps20
  go_wp2_with fail
  go_loop [0, 9, 10] (fun x i _ => ∃ j : Nat, j ≤ N ∧ i = .int .i64 j ∧ x = .int .u32 (placeN X v A j : Nat)) (fun _ i _ => N - (intOf i).toNat)
  case atStart => exact ⟨0, by omega, rfl, rfl⟩
  case round =>
    obtain ⟨j, hj, rfl, rfl⟩ := hrel
    by_cases hlt : j < N
    · have hb : bits .and .i64 (v / 2 ^ j) 1 = v / 2 ^ j % 2 := and_mask_i64 (v := v / 2 ^ j) (n := 1) (by decide)
      have hlp := placeN_lt (v := v) (a := A) hx (n := j) (by omega)
      have hp : 2 ^ (A + j) < 4294967296 := (Nat.pow_lt_pow_right (by decide) (by omega) : 2 ^ (A + j) < 2 ^ 32)
      have EP : Hid ((2 : Int) ^ (A + j) % 4294967296 = ((2 ^ (A + j) : Nat) : Int)) := by
        show _ = _
        rw [← two_pow_cast]
        generalize 2 ^ (A + j) = q at hp ⊢
        omega
      have HE : Hid (placeN X v A (j + 1) = putBit (placeN X v A j) (A + j) (bitZ v j)) := rfl
      have HN : Hid (bits .andNot .u32 ((placeN X v A j : Nat) : Int) ((2 ^ (A + j) : Nat) : Int) = ((placeN X v A j &&& (4294967295 - 2 ^ (A + j)) : Nat) : Int)) := u32_andNot_nat _ _ hlp hp
      generalize placeN X v A j = V at *
      cases hz : bitZ v j
      · have hz' : (v / 2 ^ j % 2 == 1) = false := hz
        rw [hz] at HE
        clear hz
        go_wp2_with fail
        exact ⟨⟨j + 1, by omega, by go_num, by rw [EP.out, HN.out, HE.out]; simp [putBit]⟩, by simp [intOf]; omega⟩
      · have hz' : (v / 2 ^ j % 2 == 1) = true := hz
        rw [hz] at HE
        clear hz
        go_wp2_with fail
        exact ⟨⟨j + 1, by omega, by go_num, by rw [EP.out, HN.out, HE.out, u32_or_nat _ _ (Nat.lt_of_le_of_lt Nat.and_le_left hlp) hp]; simp [putBit]⟩, by simp [intOf]; omega⟩
    · have : j = N := by omega
      subst this
      go_wp2_with fail
      go_ret
      exact ⟨rfl, Grows.refl _⟩
theorem rplace_any (x v a n : Int) (w : World) (hx : 0 ≤ x ∧ x < 4294967296) :
    Calls Tryd.prog 20 #[.int .u32 x, .int .i64 v, .int .i64 a, .int .i64 n] w fun r w' => r = .returned (.int .u32 (placeZ x v a n)) ∧ Grows w w' := by
  cases hl : liesB a n
  · exact rplace_no x v a n w hl
  · obtain ⟨b0, b1, b2⟩ := liesB_true hl
    obtain ⟨x0, x1⟩ := hx
    obtain ⟨X, rfl⟩ := Int.eq_ofNat_of_zero_le x0
    obtain ⟨A, rfl⟩ := Int.eq_ofNat_of_zero_le b0
    obtain ⟨N, rfl⟩ := Int.eq_ofNat_of_zero_le (show 0 ≤ n by omega)
    refine (rplace_yes X A N v w (by omega) (by omega) (by omega)).mono fun _ _ ⟨he, hg⟩ => ⟨?_, hg⟩
    rw [he]; simp [placeZ, hl]
/-- n bits with their sign; none: 0. -/
def sgnZ (v n : Int) : Int := if 1 ≤ n ∧ n ≤ 63 then signZ v n.toNat else 0
theorem sign_any (v n : Int) (w : World) :
    Calls Tryd.prog 24 #[.int .i64 v, .int .i64 n] w fun r w' => r = .returned (.int .i64 (sgnZ v n)) ∧ Grows w w' := by
  by_cases h : 1 ≤ n ∧ n ≤ 63
  · obtain ⟨h1, h2⟩ := h
    have e : (decide (1 ≤ n) && decide (n ≤ 63)) = true := by simp; omega
    go_enter Tryd.func24, Tryd.ntmps24
    go_wp2_with fail
    refine (within_any _ _ _ _).mono ?_
    rintro _ w1 ⟨rfl, g1, rfl⟩
    rw [e]
    go_wp2_with fail
    go_ret
    refine ⟨?_, Grows.of _ _⟩
    have e1 : (64 - n).toNat = 64 - n.toNat := by omega
    have := sign_shift (v := v) (n := n.toNat) (by omega) (by omega)
    simp [sgnZ, h1, h2, e1, this]
  · have e : (decide (1 ≤ n) && decide (n ≤ 63)) = false := by simp; omega
    go_enter Tryd.func24, Tryd.ntmps24
    go_wp2_with fail
    refine (within_any _ _ _ _).mono ?_
    rintro _ w1 ⟨rfl, g1, rfl⟩
    rw [e]
    go_wp2_with fail
    go_ret
    exact ⟨by simp [sgnZ, h], Grows.of _ _⟩
theorem rsign_any (v n : Int) (w : World) :
    Calls Tryd.prog 27 #[.int .i64 v, .int .i64 n] w fun r w' => r = .returned (.int .i64 (sgnZ v n)) ∧ Grows w w' := by
  by_cases h1 : n < 1
  · go_enter Tryd.func27, Tryd.ntmps27
    go_wp2_with fail
    go_ret
    exact ⟨by simp [sgnZ, show ¬ (1 ≤ n ∧ n ≤ 63) by omega], Grows.refl _⟩
  · by_cases h2 : 63 < n
    · go_enter Tryd.func27, Tryd.ntmps27
      go_wp2_with fail
      go_ret
      exact ⟨by simp [sgnZ, show ¬ (1 ≤ n ∧ n ≤ 63) by omega], Grows.refl _⟩
    · have HS : Hid (sgnZ v n = signZ v n.toNat) := by show _ = _; simp [sgnZ, show (1 ≤ n ∧ n ≤ 63) by omega]
      have HM := Lib.hid (sign_mod (v := v) (n := n.toNat) (by omega))
      have HA := Lib.hid (and_mask_i64 (v := v) (n := n.toNat) (by omega))
      have HW := Lib.hid (mask_i64 (n := n.toNat) (by omega))
      have hp := two_pow_pos (n.toNat - 1)
      have hp62 := pow62_lt (n := n.toNat - 1) (by omega)
      have HP := Lib.hid (wrap64_small (n := 2 ^ (n.toNat - 1)) (by omega) (by omega))
      have HN := Lib.hid (pow_split (n := n.toNat) (by omega))
      go_enter Tryd.func27, Tryd.ntmps27
      go_wp2_with fail
      · rename_i hb
        go_ret
        refine ⟨?_, Grows.refl _⟩
        rw [HW.out, HA.out] at hb
        have hb' : v % 2 ^ n.toNat / 2 ^ (n.toNat - 1) = 1 := by simpa using hb
        have hm0 := Int.emod_nonneg v (b := 2 ^ n.toNat) (by have := two_pow_pos n.toNat; omega)
        have hm1 := Int.emod_lt_of_pos v (two_pow_pos n.toNat)
        have hge : 2 ^ (n.toNat - 1) ≤ v % 2 ^ n.toNat := by
          have h3 := Int.ediv_mul_le (v % 2 ^ n.toNat) (b := 2 ^ (n.toNat - 1)) (by omega)
          rw [hb'] at h3; omega
        rw [HN.out] at hm0 hm1 hge
        simp only [HS.out, HM.out, HW.out, HA.out, HP.out, hb', if_true]
        rw [HN.out]
        simp
        rw [wrap64_small (n := v % (2 * 2 ^ (n.toNat - 1)) - 2 ^ (n.toNat - 1)) (by omega) (by omega), wrap64_small (by omega) (by omega)]
      · rename_i hb
        go_ret
        refine ⟨?_, Grows.refl _⟩
        rw [HW.out, HA.out] at hb
        have hb' : ¬ v % 2 ^ n.toNat / 2 ^ (n.toNat - 1) = 1 := by simpa using hb
        simp [HS.out, HM.out, HW.out, HA.out, hb']
def fitsB (v n : Int) : Bool := decide (1 ≤ n) && decide (n ≤ 63) && (sgnZ v n == v)
theorem fits_any (v n : Int) (w : World) :
    Calls Tryd.prog 40 #[.int .i64 v, .int .i64 n] w fun r w' => r = .returned (.bool (fitsB v n)) ∧ Grows w w' := by
  by_cases h : 1 ≤ n ∧ n ≤ 63
  · obtain ⟨h1, h2⟩ := h
    have e : (decide (1 ≤ n) && decide (n ≤ 63)) = true := by simp; omega
    go_enter Tryd.func40, Tryd.ntmps40
    go_wp2_with fail
    refine (within_any _ _ _ _).mono ?_
    rintro _ w1 ⟨rfl, g1, rfl⟩
    rw [e]
    go_wp2_with fail
    refine (sign_any _ _ _).mono ?_
    rintro _ w1 ⟨rfl, g2, rfl⟩
    go_wp2_with fail
    go_ret
    exact ⟨by simp [fitsB, h1, h2], Grows.of _ _⟩
  · have e : (decide (1 ≤ n) && decide (n ≤ 63)) = false := by simp; omega
    go_enter Tryd.func40, Tryd.ntmps40
    go_wp2_with fail
    refine (within_any _ _ _ _).mono ?_
    rintro _ w1 ⟨rfl, g1, rfl⟩
    rw [e]
    go_wp2_with fail
    go_ret
    exact ⟨by simp [fitsB, e], Grows.of _ _⟩
theorem rfits_any (v n : Int) (w : World) :
    Calls Tryd.prog 37 #[.int .i64 v, .int .i64 n] w fun r w' => r = .returned (.bool (fitsB v n)) ∧ Grows w w' := by
  by_cases h1 : 1 ≤ n
  · by_cases h2 : n ≤ 63
    · have hp := two_pow_pos (n.toNat - 1)
      have hp62 := pow62_lt (n := n.toNat - 1) (by omega)
      have HP := Lib.hid (wrap64_small (n := 2 ^ (n.toNat - 1)) (by omega) (by omega))
      have HQ := Lib.hid (wrap64_small (n := -(2 ^ (n.toNat - 1))) (by omega) (by omega))
      have HR := Lib.hid (wrap64_small (n := 2 ^ (n.toNat - 1) - 1) (by omega) (by omega))
      have HT : Hid (fitsB v n = (decide (-(2 ^ (n.toNat - 1)) ≤ v) && decide (v ≤ 2 ^ (n.toNat - 1) - 1))) := by
        show _ = _
        rw [Bool.eq_iff_iff]
        simp [fitsB, sgnZ, h1, h2, sign_fits (v := v) (n := n.toNat) (by omega)]
      go_enter Tryd.func37, Tryd.ntmps37
      go_wp2_with fail
      · go_ret
        refine ⟨?_, Grows.refl _⟩
        rename_i hb
        simp [HT.out, hb]
      · go_ret
        refine ⟨?_, Grows.refl _⟩
        rename_i hb
        simp [HT.out, Int.not_le.mpr hb]
    · have HT : Hid (fitsB v n = false) := by show _ = _; unfold fitsB; rw [decide_eq_false (show ¬ n ≤ 63 by omega)]; simp
      go_enter Tryd.func37, Tryd.ntmps37
      go_wp2_with fail
      go_ret
      exact ⟨by simp [HT.out], Grows.refl _⟩
  · have HT : Hid (fitsB v n = false) := by show _ = _; unfold fitsB; rw [decide_eq_false (show ¬ 1 ≤ n by omega)]; simp
    go_enter Tryd.func37, Tryd.ntmps37
    go_wp2_with fail
    go_ret
    exact ⟨by simp [HT.out], Grows.refl _⟩
end Go.Proofs.YtjbgamifkgeodaaDoor
