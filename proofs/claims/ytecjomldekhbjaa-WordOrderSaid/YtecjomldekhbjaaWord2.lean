/- What the other numeric functions of the package word, and of its reference, compute: quotients, shifts, order. -/
import Derived.Test.YtecjomldekhbjaaWord
namespace Go.Proofs.Ytecjomldekhbjaa
open Go Go.RowKit
set_option linter.unusedSimpArgs false
set_option linter.unusedVariables false
def lessB (a b : Int) (s : Bool) : Bool := if s then decide (wrap64 a < wrap64 b) else decide (a < b)
theorem nan1_any (x : Int) (w : World) : Calls Try.prog 28 #[.int .i64 x] w fun r w' => r = .returned (.bool false) ∧ Grows w w' := by
  go_enter Try.func28, Try.ntmps28
  go_wp2
  go_ret
  exact ⟨by simp, Grows.refl _⟩
theorem nan2_any (x : Int) (w : World) : Calls Try.prog 29 #[.int .u64 x] w fun r w' => r = .returned (.bool false) ∧ Grows w w' := by
  go_enter Try.func29, Try.ntmps29
  go_wp2
  go_ret
  exact ⟨by simp, Grows.refl _⟩
theorem less1_any (x y : Int) (w : World) : Calls Try.prog 26 #[.int .i64 x, .int .i64 y] w fun r w' => r = .returned (.bool (decide (x < y))) ∧ Grows w w' := by
  go_enter Try.func26, Try.ntmps26
  go_wp2_with fail
  refine (nan1_any _ _).mono ?_
  rintro _ w1 ⟨rfl, g1, rfl⟩
  go_wp2_with fail
  go_ret
  exact ⟨by simp, Grows.of _ _⟩
theorem less2_any (x y : Int) (w : World) : Calls Try.prog 27 #[.int .u64 x, .int .u64 y] w fun r w' => r = .returned (.bool (decide (x < y))) ∧ Grows w w' := by
  go_enter Try.func27, Try.ntmps27
  go_wp2_with fail
  refine (nan2_any _ _).mono ?_
  rintro _ w1 ⟨rfl, g1, rfl⟩
  go_wp2_with fail
  go_ret
  exact ⟨by simp, Grows.of _ _⟩
theorem less_any (a b : Int) (s : Bool) (w : World) : Calls Try.prog 17 #[.int .u64 a, .int .u64 b, .bool s] w fun r w' => r = .returned (.bool (lessB a b s)) ∧ Grows w w' := by
  cases s
  · go_enter Try.func17, Try.ntmps17
    go_wp2_with fail
    refine (less2_any _ _ _).mono ?_
    rintro _ w1 ⟨rfl, g1, rfl⟩
    go_wp2_with fail
    go_ret
    exact ⟨by simp [lessB], Grows.of _ _⟩
  · go_enter Try.func17, Try.ntmps17
    go_wp2_with fail
    refine (less1_any _ _ _).mono ?_
    rintro _ w1 ⟨rfl, g1, rfl⟩
    go_wp2_with fail
    go_ret
    exact ⟨by simp [lessB], Grows.of _ _⟩
theorem rless_any (a b : Int) (s : Bool) (w : World) : Calls Try.prog 22 #[.int .u64 a, .int .u64 b, .bool s] w fun r w' => r = .returned (.bool (lessB a b s)) ∧ Grows w w' := by
  cases s
  · go_enter Try.func22, Try.ntmps22
    go_wp2_with fail
    go_ret
    exact ⟨by simp [lessB], Grows.refl _⟩
  · go_enter Try.func22, Try.ntmps22
    go_wp2_with fail
    go_ret
    exact ⟨by simp [lessB], Grows.refl _⟩
def quotZ (a b : Int) : Int := if b = 0 then 18446744073709551615 else a / b
def restZ (a b : Int) : Int := if b = 0 then a else a % b
theorem divide_any (a b : Int) (w : World) (ha : 0 ≤ a ∧ a < 18446744073709551616) (hb : 0 ≤ b ∧ b < 18446744073709551616) :
    Calls Try.prog 19 #[.int .u64 a, .int .u64 b] w fun r w' => r = .returned (.tuple #[.int .u64 (quotZ a b), .int .u64 (restZ a b)]) ∧ Grows w w' := by
  obtain ⟨a0, a1⟩ := ha
  obtain ⟨b0, b1⟩ := hb
  by_cases h : b = 0
  · subst h
    go_enter Try.func19, Try.ntmps19
    go_wp2_with fail
    go_ret2
    exact ⟨by simp [quotZ, restZ], Grows.refl _⟩
  · have h' : (b == 0) = false := by simpa using h
    have hp : 0 < b := by omega
    go_enter Try.func19, Try.ntmps19
    go_wp2_with fail
    refine wp_region_grow (by kernel_rfl) (by kernel_rfl) ?_
    repeat (go_big_quiet_step (fail))
    refine wpQuiet_nil ?_
    intro _ hw'
    obtain ⟨g3, rfl⟩ := hw'
    go_wp2_with fail
    go_ret2
    refine ⟨?_, Grows.of _ _⟩
    simp [quotZ, restZ, h]
theorem rdivide_any (a b : Int) (w : World) (ha : 0 ≤ a ∧ a < 18446744073709551616) (hb : 0 ≤ b ∧ b < 18446744073709551616) :
    Calls Try.prog 20 #[.int .u64 a, .int .u64 b] w fun r w' => r = .returned (.tuple #[.int .u64 (quotZ a b), .int .u64 (restZ a b)]) ∧ Grows w w' := by
  obtain ⟨a0, a1⟩ := ha
  obtain ⟨b0, b1⟩ := hb
  by_cases h : b = 0
  · subst h
    go_enter Try.func20, Try.ntmps20
    go_wp2_with fail
    go_ret2
    exact ⟨by simp [quotZ, restZ], Grows.refl _⟩
  · have h' : (b == 0) = false := by simpa using h
    have hp : 0 < b := by omega
    go_enter Try.func20, Try.ntmps20
    go_wp2_with fail
    refine wp_region_grow (by kernel_rfl) (by kernel_rfl) ?_
    repeat (go_big_quiet_step (fail))
    refine wpQuiet_nil ?_
    intro _ hw'
    obtain ⟨g3, rfl⟩ := hw'
    go_wp2_with fail
    go_ret2
    refine ⟨?_, Grows.of _ _⟩
    simp [quotZ, restZ, h]
def shiftZ (k a b : Int) : Int :=
  if k = 0 then a * 2 ^ (b % 64).toNat % 18446744073709551616 else if k = 1 then a / 2 ^ (b % 64).toNat
  else if k = 2 then IntKind.u64.wrap (wrap64 a / 2 ^ (b % 64).toNat) else a
theorem shift_any (k a b : Int) (w : World) (ha : 0 ≤ a ∧ a < 18446744073709551616) (hb : 0 ≤ b ∧ b < 18446744073709551616) :
    Calls Try.prog 18 #[.int .i64 k, .int .u64 a, .int .u64 b] w fun r w' => r = .returned (.int .u64 (shiftZ k a b)) ∧ Grows w w' := by
  obtain ⟨a0, a1⟩ := ha
  obtain ⟨b0, b1⟩ := hb
  have e := and63_u64 b0 b1
  have m0 : 0 ≤ b % 64 := Int.emod_nonneg _ (by decide)
  have m1 : b % 64 < 64 := Int.emod_lt_of_pos _ (by decide)
  generalize hm : b % 64 = m at *
  have HM := Lib.hid hm
  clear hm
  by_cases h0 : k = 0
  · subst h0
    go_enter Try.func18, Try.ntmps18
    go_wp2_with fail
    go_ret
    refine ⟨?_, Grows.refl _⟩
    simp [shiftZ, HM.out, IntKind.wrap_u64]
  · by_cases h1 : k = 1
    · subst h1
      go_enter Try.func18, Try.ntmps18
      go_wp2_with fail
      go_ret
      refine ⟨?_, Grows.refl _⟩
      have hq0 : 0 ≤ a / 2 ^ m.toNat := Int.ediv_nonneg a0 (by have := two_pow_pos m.toNat; omega)
      have hq1 : a / 2 ^ m.toNat ≤ a := Int.ediv_le_self _ a0
      simp [shiftZ, HM.out, or_zero_u64 hq0 (by omega)]
    · by_cases h2 : k = 2
      · subst h2
        go_enter Try.func18, Try.ntmps18
        go_wp2_with fail
        · have hbit : (a / 9223372036854775808 == 1) = true := by assumption
          go_ret
          refine ⟨?_, Grows.refl _⟩
          have hp := two_pow_pos m.toNat
          have hq0 : 0 ≤ (18446744073709551615 : Int) / 2 ^ m.toNat := Int.ediv_nonneg (by decide) (by omega)
          have hq1 : (18446744073709551615 : Int) / 2 ^ m.toNat ≤ 18446744073709551615 := Int.ediv_le_self _ (by decide)
          have hge : 9223372036854775808 ≤ a := by
            have : a / 9223372036854775808 = 1 := by simpa using hbit
            omega
          have hw : wrap64 a = a - 18446744073709551616 := by unfold wrap64; omega
          simp [shiftZ, HM.out, not_u64 hq0 (by omega), shr_sign hge a1 (n := m.toNat) (by omega), hw]
        · have hbit : (a / 9223372036854775808 == 1) = false := by assumption
          go_ret
          refine ⟨?_, Grows.refl _⟩
          have hp := two_pow_pos m.toNat
          have hlt : a < 9223372036854775808 := by
            have : ¬ a / 9223372036854775808 = 1 := by simpa using hbit
            omega
          have hw : wrap64 a = a := by unfold wrap64; omega
          have hq0 : 0 ≤ a / 2 ^ m.toNat := Int.ediv_nonneg a0 (by omega)
          have hq1 : a / 2 ^ m.toNat ≤ a := Int.ediv_le_self _ a0
          simp [shiftZ, HM.out, hw, or_zero_u64 hq0 (by omega), wrap_u64_small hq0 (by omega)]
      · go_enter Try.func18, Try.ntmps18
        go_wp2_with fail
        go_ret
        refine ⟨?_, Grows.refl _⟩
        simp [shiftZ, h0, h1, h2]
theorem rshift_any (k a b : Int) (w : World) (ha : 0 ≤ a ∧ a < 18446744073709551616) (hb : 0 ≤ b ∧ b < 18446744073709551616) :
    Calls Try.prog 21 #[.int .i64 k, .int .u64 a, .int .u64 b] w fun r w' => r = .returned (.int .u64 (shiftZ k a b)) ∧ Grows w w' := by
  obtain ⟨a0, a1⟩ := ha
  obtain ⟨b0, b1⟩ := hb
  have m0 : 0 ≤ b % 64 := Int.emod_nonneg _ (by decide)
  have m1 : b % 64 < 64 := Int.emod_lt_of_pos _ (by decide)
  by_cases h0 : k = 0
  · subst h0
    go_enter Try.func21, Try.ntmps21
    go_wp2_with fail
    go_ret
    refine ⟨?_, Grows.refl _⟩
    simp [shiftZ, IntKind.wrap_u64]
  · by_cases h1 : k = 1
    · subst h1
      go_enter Try.func21, Try.ntmps21
      go_wp2_with fail
      go_ret
      refine ⟨?_, Grows.refl _⟩
      simp [shiftZ]
    · by_cases h2 : k = 2
      · subst h2
        go_enter Try.func21, Try.ntmps21
        go_wp2_with fail
        go_ret
        refine ⟨?_, Grows.refl _⟩
        simp [shiftZ]
      · go_enter Try.func21, Try.ntmps21
        go_wp2_with fail
        go_ret
        refine ⟨?_, Grows.refl _⟩
        simp [shiftZ, h0, h1, h2]
end Go.Proofs.Ytecjomldekhbjaa
