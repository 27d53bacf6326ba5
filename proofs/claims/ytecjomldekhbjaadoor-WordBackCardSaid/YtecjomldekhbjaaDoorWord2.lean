/- What the other numeric functions of the package word, and of its reference, compute: quotients, shifts, order. -/
import Derived.Test.YtecjomldekhbjaaDoorWord
namespace Go.Proofs.YtecjomldekhbjaaDoor
open Go Go.RowKit
set_option linter.unusedSimpArgs false
set_option linter.unusedVariables false
def lessB (a b : Int) (s : Bool) : Bool := if s then decide (wrap64 a < wrap64 b) else decide (a < b)
def quotZ (a b : Int) : Int := if b = 0 then 18446744073709551615 else a / b
def restZ (a b : Int) : Int := if b = 0 then a else a % b
theorem divide_any (a b : Int) (w : World) (ha : 0 ≤ a ∧ a < 18446744073709551616) (hb : 0 ≤ b ∧ b < 18446744073709551616) :
    Calls Tryd.prog 27 #[.int .u64 a, .int .u64 b] w fun r w' => r = .returned (.tuple #[.int .u64 (quotZ a b), .int .u64 (restZ a b)]) ∧ Grows w w' := by
  obtain ⟨a0, a1⟩ := ha
  obtain ⟨b0, b1⟩ := hb
  by_cases h : b = 0
  · subst h
    go_enter Tryd.func27, Tryd.ntmps27
    go_wp2_with fail
    go_ret2
    exact ⟨by simp [quotZ, restZ], Grows.refl _⟩
  · have h' : (b == 0) = false := by simpa using h
    have hp : 0 < b := by omega
    go_enter Tryd.func27, Tryd.ntmps27
    go_wp2_with fail
    refine wp_region_grow (by kernel_rfl) (by kernel_rfl) ?_
    repeat (go_big_quiet_step (fail))
    refine wpQuiet_nil ?_
    intro _ hw'
    obtain ⟨g3, rfl⟩ := hw'
    go_wp2_with fail
    go_ret2
    refine ⟨?_, Grows.of _ _⟩
    simp [quotZ, restZ, h]
def shiftZ (k a b : Int) : Int :=
  if k = 0 then a * 2 ^ (b % 64).toNat % 18446744073709551616 else if k = 1 then a / 2 ^ (b % 64).toNat
  else if k = 2 then IntKind.u64.wrap (wrap64 a / 2 ^ (b % 64).toNat) else a
end Go.Proofs.YtecjomldekhbjaaDoor
