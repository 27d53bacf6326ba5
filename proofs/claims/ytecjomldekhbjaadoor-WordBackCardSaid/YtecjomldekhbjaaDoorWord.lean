/- What the numeric functions of the package word, and of its reference, compute: fields, places, signs, quotients, shifts, order. -/
import Derived.Test.YtecjomldekhbjaaDoorProg
import Derived.Test.YtecjomldekhbjaaDoorBase
import Derived.Test.YtecjomldekhbjaaDoorNum
import Derived.OpenShut
import Derived.Lib.Hide
namespace Go.Proofs.YtecjomldekhbjaaDoor
open Go Go.RowKit
set_option linter.unusedSimpArgs false
set_option linter.unusedVariables false
theorem within_any (x l m : Int) (w : World) :
    Calls Tryd.prog 35 #[.int .i64 x, .int .i64 l, .int .i64 m] w fun r w' => r = .returned (.bool (decide (l ≤ x) && decide (x ≤ m))) ∧ Grows w w' := by
  by_cases h : l ≤ x
  · go_enter Tryd.func35, Tryd.ntmps35
    go_wp2
    go_ret
    exact ⟨by simp [h], Grows.refl _⟩
  · go_enter Tryd.func35, Tryd.ntmps35
    go_wp2
    go_ret
    exact ⟨by simp [decide_eq_false (show ¬ l ≤ x by omega)], Grows.refl _⟩
def liesB (a n : Int) : Bool := decide (0 ≤ a) && decide (1 ≤ n) && decide (a + n ≤ 32)
theorem liesB_true {a n : Int} (h : liesB a n = true) : 0 ≤ a ∧ 1 ≤ n ∧ a + n ≤ 32 := by simp [liesB] at h; omega
theorem liesB_false {a n : Int} (h : liesB a n = false) : a < 0 ∨ n < 1 ∨ 32 < a + n := by simp [liesB] at h; omega
theorem lies_any (a n : Int) (w : World) :
    Calls Tryd.prog 33 #[.int .i64 a, .int .i64 n] w fun r w' => r = .returned (.bool (liesB a n)) ∧ Grows w w' := by
  by_cases h1 : 0 ≤ a ∧ a ≤ 31
  · by_cases h2 : 1 ≤ n ∧ n ≤ 32
    · have e1 : (decide (0 ≤ a) && decide (a ≤ 31)) = true := by simp [h1]
      have e2 : (decide (1 ≤ n) && decide (n ≤ 32)) = true := by simp [h2]
      go_enter Tryd.func33, Tryd.ntmps33
      go_wp2_with fail
      refine (within_any _ _ _ _).mono ?_
      rintro _ w1 ⟨rfl, g1, rfl⟩
      rw [e1]
      go_wp2_with fail
      refine (within_any _ _ _ _).mono ?_
      rintro _ w1 ⟨rfl, g2, rfl⟩
      rw [e2]
      go_wp2_with fail
      go_ret
      exact ⟨by simp [liesB, h1.1, h2.1], Grows.of _ _⟩
    · have e1 : (decide (0 ≤ a) && decide (a ≤ 31)) = true := by simp [h1]
      have e2 : (decide (1 ≤ n) && decide (n ≤ 32)) = false := by simp; omega
      go_enter Tryd.func33, Tryd.ntmps33
      go_wp2_with fail
      refine (within_any _ _ _ _).mono ?_
      rintro _ w1 ⟨rfl, g1, rfl⟩
      rw [e1]
      go_wp2_with fail
      refine (within_any _ _ _ _).mono ?_
      rintro _ w1 ⟨rfl, g2, rfl⟩
      rw [e2]
      go_wp2_with fail
      go_ret
      exact ⟨by simp [liesB]; omega, Grows.of _ _⟩
  · have e1 : (decide (0 ≤ a) && decide (a ≤ 31)) = false := by simp; omega
    go_enter Tryd.func33, Tryd.ntmps33
    go_wp2_with fail
    refine (within_any _ _ _ _).mono ?_
    rintro _ w1 ⟨rfl, g1, rfl⟩
    rw [e1]
    go_wp2_with fail
    go_ret
    exact ⟨by simp [liesB]; omega, Grows.of _ _⟩
theorem mask_any (n : Int) (w : World) (h0 : 0 ≤ n) (h1 : n ≤ 63) :
    Calls Tryd.prog 34 #[.int .i64 n] w fun r w' => r = .returned (.int .u64 (2 ^ n.toNat - 1)) ∧ Grows w w' := by
  go_enter Tryd.func34, Tryd.ntmps34
  go_wp2
  go_ret
  refine ⟨?_, Grows.refl _⟩
  have := mask_u64 (n := n.toNat) (by omega)
  simp [this]
def fieldZ (x a n : Int) : Int := if liesB a n then x / 2 ^ a.toNat % 2 ^ n.toNat else 0
theorem field_lt (x a n : Int) : 0 ≤ fieldZ x a n ∧ fieldZ x a n < 4294967296 := by
  unfold fieldZ
  split
  · rename_i h
    have hl := liesB_true h
    have hp := two_pow_pos n.toNat
    have h2 : (2 : Int) ^ n.toNat ≤ 2 ^ 32 := two_pow_le (by omega)
    have h3 := Int.emod_nonneg (x / 2 ^ a.toNat) (b := 2 ^ n.toNat) (by omega)
    have h4 := Int.emod_lt_of_pos (x / 2 ^ a.toNat) hp
    have h5 : (2 : Int) ^ 32 = 4294967296 := by decide
    omega
  · omega
theorem shr_lt {x : Int} (k : Nat) (h0 : 0 ≤ x) (h1 : x < 4294967296) : 0 ≤ x / 2 ^ k ∧ x / 2 ^ k < 4294967296 := by
  have hp := two_pow_pos k
  exact ⟨Int.ediv_nonneg h0 (by omega), Int.lt_of_le_of_lt (Int.ediv_le_self _ h0) h1⟩
theorem field_any (x a n : Int) (w : World) (hx : 0 ≤ x ∧ x < 4294967296) :
    Calls Tryd.prog 26 #[.int .u32 x, .int .i64 a, .int .i64 n] w fun r w' => r = .returned (.int .i64 (fieldZ x a n)) ∧ Grows w w' := by
  cases hl : liesB a n
  · go_enter Tryd.func26, Tryd.ntmps26
    go_wp2_with fail
    refine (lies_any _ _ _).mono ?_
    rintro _ w1 ⟨rfl, g1, rfl⟩
    rw [hl]
    go_wp2_with fail
    go_ret
    exact ⟨by simp [fieldZ, hl], Grows.of _ _⟩
  · obtain ⟨b0, b1, b2⟩ := liesB_true hl
    obtain ⟨x0, x1⟩ := hx
    go_enter Tryd.func26, Tryd.ntmps26
    go_wp2_with fail
    refine (lies_any _ _ _).mono ?_
    rintro _ w1 ⟨rfl, g1, rfl⟩
    rw [hl]
    go_wp2_with fail
    refine wp_region_grow (by kernel_rfl) (by kernel_rfl) ?_
    repeat (go_big_quiet_step ((go_at_call 34; first | exact Calls.quiet_grow (mask_any _ _ (by omega) (by omega)) | exact Calls.quiet_grow0 (mask_any _ _ (by omega) (by omega)))))
    refine wpQuiet_nil ?_
    intro _ hw'
    obtain ⟨g3, rfl⟩ := hw'
    go_wp2_with fail
    go_ret
    refine ⟨?_, (Grows.of _ _).grow _⟩
    have e0 : IntKind.u64.wrap x = x := wrap_u64_small x0 (by omega)
    have hq := shr_lt a.toNat x0 x1
    have e1 := and_mask_u64 (x := x / 2 ^ a.toNat) (n := n.toNat) hq.1 (by omega) (by omega)
    have h3 := field_lt x a n
    simp only [fieldZ, hl, if_true] at h3
    simp [e0, e1, fieldZ, hl]
    exact wrap64_small (by omega) (by omega)
def cutB (a n : Int) : Bool := decide (a < 0) || decide (31 < a) || decide (n < 1) || decide (32 < n) || decide (32 < a + n)
def placeZ (x v a n : Int) : Int := if liesB a n then (placeN x.toNat v a.toNat n.toNat : Nat) else x
theorem place_lt {x : Int} (v a n : Int) (h0 : 0 ≤ x) (h1 : x < 4294967296) : 0 ≤ placeZ x v a n ∧ placeZ x v a n < 4294967296 := by
  unfold placeZ
  split
  · rename_i h
    have hl := liesB_true h
    have := placeN_lt (x := x.toNat) (v := v) (a := a.toNat) (by omega) (n := n.toNat) (by omega)
    omega
  · omega
theorem place_any (x v a n : Int) (w : World) (hx : 0 ≤ x ∧ x < 4294967296) :
    Calls Tryd.prog 25 #[.int .u32 x, .int .i64 v, .int .i64 a, .int .i64 n] w fun r w' => r = .returned (.int .u32 (placeZ x v a n)) ∧ Grows w w' := by
  cases hl : liesB a n
  · go_enter Tryd.func25, Tryd.ntmps25
    go_wp2_with fail
    refine (lies_any _ _ _).mono ?_
    rintro _ w1 ⟨rfl, g1, rfl⟩
    rw [hl]
    go_wp2_with fail
    go_ret
    exact ⟨by simp [placeZ, hl], Grows.of _ _⟩
  · obtain ⟨b0, b1, b2⟩ := liesB_true hl
    obtain ⟨x0, x1⟩ := hx
    go_enter Tryd.func25, Tryd.ntmps25
    go_wp2_with fail
    refine (lies_any _ _ _).mono ?_
    rintro _ w1 ⟨rfl, g1, rfl⟩
    rw [hl]
    go_wp2_with fail
    refine (mask_any _ _ (by omega) (by omega)).mono ?_
    rintro _ w1 ⟨rfl, g2, rfl⟩
    go_wp2_with fail
    go_ret
    refine ⟨?_, Grows.of _ _⟩
    obtain ⟨X, rfl⟩ := Int.eq_ofNat_of_zero_le x0
    obtain ⟨A, rfl⟩ := Int.eq_ofNat_of_zero_le b0
    obtain ⟨N, rfl⟩ := Int.eq_ofNat_of_zero_le (show 0 ≤ n by omega)
    have hm : (2 ^ N - 1) * 2 ^ A < 4294967296 := by
      have h1 : (2 ^ N - 1) * 2 ^ A < 2 ^ N * 2 ^ A := Nat.mul_lt_mul_of_pos_right (Nat.sub_lt (Nat.two_pow_pos N) (by decide)) (Nat.two_pow_pos A)
      rw [← Nat.pow_add] at h1
      exact Nat.lt_of_lt_of_le h1 (Nat.pow_le_pow_right (by decide) (by omega) : 2 ^ (N + A) ≤ 2 ^ 32)
    have em : ((2 : Int) ^ N - 1) * 2 ^ A = (((2 ^ N - 1) * 2 ^ A : Nat) : Int) := by
      rw [Int.natCast_mul, Int.natCast_sub (Nat.two_pow_pos N)]; simp
    have ev : v % 4294967296 * 2 ^ A % 4294967296 = (((v % 4294967296).toNat * 2 ^ A % 4294967296 : Nat) : Int) := by
      rw [Int.natCast_emod, Int.natCast_mul, Int.toNat_of_nonneg (Int.emod_nonneg _ (by decide))]; simp
    have ew : IntKind.u64.wrap (((2 ^ N - 1) * 2 ^ A : Nat) : Int) % 4294967296 = (((2 ^ N - 1) * 2 ^ A : Nat) : Int) := by
      rw [wrap_u64_small (by omega) (by omega), Int.emod_eq_of_lt (by omega) (by omega)]
    simp [placeZ, hl]
    rw [em, ew, ev, u32_andNot_nat _ _ (by omega) (by omega), u32_and_nat _ _ (Nat.mod_lt _ (by decide)) (by omega),
      u32_or_nat _ _ (Nat.lt_of_le_of_lt Nat.and_le_left (by omega)) (Nat.lt_of_le_of_lt Nat.and_le_left (Nat.mod_lt _ (by decide))), place_mask (by omega) (by omega)]
/-- n bits with their sign; none: 0. -/
def sgnZ (v n : Int) : Int := if 1 ≤ n ∧ n ≤ 63 then signZ v n.toNat else 0
def fitsB (v n : Int) : Bool := decide (1 ≤ n) && decide (n ≤ 63) && (sgnZ v n == v)
end Go.Proofs.YtecjomldekhbjaaDoor
