/- What Split and Join of the package entry, and of its reference, compute. -/
import Derived.Test.YtlchlklbjocliaaDoorEntP
namespace Go.Proofs.YtlchlklbjocliaaDoor
open Go Go.RowKit
set_option linter.unusedSimpArgs false
set_option linter.unusedVariables false
set_option maxRecDepth 100000
theorem or_apart {x y : Int} {k : Nat} (h0 : 0 ≤ x) (h1 : x % 2 ^ k = 0) (h2 : 0 ≤ y ∧ y < 2 ^ k) (h3 : x < 9223372036854775808 ∧ k ≤ 62) : bits .or .u64 x y = x + y := by
  obtain ⟨X, rfl⟩ := Int.eq_ofNat_of_zero_le h0
  obtain ⟨Y, rfl⟩ := Int.eq_ofNat_of_zero_le h2.1
  have hk : 2 ^ k ≤ 2 ^ 62 := Nat.pow_le_pow_right (by omega) h3.2
  have hY : Y < 2 ^ k := by have := h2.2; exact_mod_cast this
  have hX : X % 2 ^ k = 0 := by exact_mod_cast h1
  have h4 := h3.1
  rw [u64_or_nat _ _ (by omega) (by omega)]
  have : X ||| Y = X + Y := by
    have e := Nat.div_add_mod X (2 ^ k)
    rw [hX, Nat.add_zero] at e
    rw [← e]
    exact (Nat.two_pow_add_eq_or_of_lt hY _).symm
  rw [this]
  omega
def joinZ (a b c : Int) : Int := if 0 ≤ a ∧ a ≤ 31 ∧ 0 ≤ b ∧ b ≤ 31 ∧ 0 ≤ c ∧ c ≤ 255 then a * 8192 + b * 256 + c else 0
def joinE (a b c : Int) : Int := if 0 ≤ a ∧ a ≤ 31 ∧ 0 ≤ b ∧ b ≤ 31 ∧ 0 ≤ c ∧ c ≤ 255 then 0 else 2
theorem split_any (v : Int) (hv0 : 0 ≤ v) (hv1 : v < 18446744073709551616) (w : World) :
    Calls Tryd.prog 69 #[.int .u64 v] w fun r w' => r = .returned (if v < 262144 then .tuple #[.int .i64 (v / 8192), .int .i64 (v / 256 % 32), .int .i64 (v % 256), .bool true] else .tuple #[.int .i64 0, .int .i64 0, .int .i64 0, .bool false]) ∧ Grows w w' := by
  have H := Lib.hid hv1
  have e1 : bits .and .u64 (v / 256) 31 = v / 256 % 32 := and_mask_u64 (n := 5) (by omega) (by omega) (by omega)
  have e2 : bits .and .u64 v 255 = v % 256 := and_mask_u64 (n := 8) hv0 hv1 (by omega)
  have e3 : wrap64 (bits .and .u64 (v / 256) 31) = v / 256 % 32 := by rw [e1]; exact wrap64_small (by omega) (by omega)
  have e4 : wrap64 (bits .and .u64 v 255) = v % 256 := by rw [e2]; exact wrap64_small (by omega) (by omega)
  have E3 := Lib.hid e3
  have E4 := Lib.hid e4
  clear e1 e2 e3 e4
  by_cases h : v < 262144
  · have h' : v / 262144 = 0 := by omega
    rw [if_pos h]
    go_enter Tryd.func69, Tryd.ntmps69
    go_wp2_with fail
    rw [E3.out, E4.out]
    exact bodyPost_ret (v := .tuple #[.int .i64 (v / 8192), .int .i64 (v / 256 % 32), .int .i64 (v % 256), .bool true]) (by simp [results, Tryd.results69, go_sem]) rfl ⟨rfl, Grows.refl _⟩
  · have h' : ¬ v / 262144 = 0 := by omega
    rw [if_neg h]
    go_enter Tryd.func69, Tryd.ntmps69
    go_wp2_with fail
    exact bodyPost_ret (v := .tuple #[.int .i64 0, .int .i64 0, .int .i64 0, .bool false]) (by simp [results, Tryd.results69, go_sem]) rfl ⟨rfl, Grows.refl _⟩
end Go.Proofs.YtlchlklbjocliaaDoor
