/- What Split and Join of the package entry, and of its reference, compute. -/
import Derived.Test.YtnkmelhggnelmaaDoorEntP
namespace Go.Proofs.YtnkmelhggnelmaaDoor
open Go Go.RowKit
set_option linter.unusedSimpArgs false
set_option linter.unusedVariables false
set_option maxRecDepth 100000
theorem or_apart {x y : Int} {k : Nat} (h0 : 0 ≤ x) (h1 : x % 2 ^ k = 0) (h2 : 0 ≤ y ∧ y < 2 ^ k) (h3 : x < 9223372036854775808 ∧ k ≤ 62) : bits .or .u64 x y = x + y := by
  obtain ⟨X, rfl⟩ := Int.eq_ofNat_of_zero_le h0
  obtain ⟨Y, rfl⟩ := Int.eq_ofNat_of_zero_le h2.1
  have hk : 2 ^ k ≤ 2 ^ 62 := Nat.pow_le_pow_right (by omega) h3.2
  have hY : Y < 2 ^ k := by have := h2.2; exact_mod_cast this
  have hX : X % 2 ^ k = 0 := by exact_mod_cast h1
  have h4 := h3.1
  rw [u64_or_nat _ _ (by omega) (by omega)]
  have : X ||| Y = X + Y := by
    have e := Nat.div_add_mod X (2 ^ k)
    rw [hX, Nat.add_zero] at e
    rw [← e]
    exact (Nat.two_pow_add_eq_or_of_lt hY _).symm
  rw [this]
  omega
def joinZ (a b c : Int) : Int := if 0 ≤ a ∧ a ≤ 31 ∧ 0 ≤ b ∧ b ≤ 31 ∧ 0 ≤ c ∧ c ≤ 255 then a * 8192 + b * 256 + c else 0
def joinE (a b c : Int) : Int := if 0 ≤ a ∧ a ≤ 31 ∧ 0 ≤ b ∧ b ≤ 31 ∧ 0 ≤ c ∧ c ≤ 255 then 0 else 2
theorem split_any (v : Int) (hv0 : 0 ≤ v) (hv1 : v < 18446744073709551616) (w : World) :
    Calls Tryd.prog 15 #[.int .u64 v] w fun r w' => r = .returned (if v < 262144 then .tuple #[.int .i64 (v / 8192), .int .i64 (v / 256 % 32), .int .i64 (v % 256), .bool true] else .tuple #[.int .i64 0, .int .i64 0, .int .i64 0, .bool false]) ∧ Grows w w' := by
  have H := Lib.hid hv1
  have e1 : bits .and .u64 (v / 256) 31 = v / 256 % 32 := and_mask_u64 (n := 5) (by omega) (by omega) (by omega)
  have e2 : bits .and .u64 v 255 = v % 256 := and_mask_u64 (n := 8) hv0 hv1 (by omega)
  have e3 : wrap64 (bits .and .u64 (v / 256) 31) = v / 256 % 32 := by rw [e1]; exact wrap64_small (by omega) (by omega)
  have e4 : wrap64 (bits .and .u64 v 255) = v % 256 := by rw [e2]; exact wrap64_small (by omega) (by omega)
  have E3 := Lib.hid e3
  have E4 := Lib.hid e4
  clear e1 e2 e3 e4
  by_cases h : v < 262144
  · have h' : v / 262144 = 0 := by omega
    rw [if_pos h]
    go_enter Tryd.func15, Tryd.ntmps15
    go_wp2_with fail
    rw [E3.out, E4.out]
    exact bodyPost_ret (v := .tuple #[.int .i64 (v / 8192), .int .i64 (v / 256 % 32), .int .i64 (v % 256), .bool true]) (by simp [results, Tryd.results15, go_sem]) rfl ⟨rfl, Grows.refl _⟩
  · have h' : ¬ v / 262144 = 0 := by omega
    rw [if_neg h]
    go_enter Tryd.func15, Tryd.ntmps15
    go_wp2_with fail
    exact bodyPost_ret (v := .tuple #[.int .i64 0, .int .i64 0, .int .i64 0, .bool false]) (by simp [results, Tryd.results15, go_sem]) rfl ⟨rfl, Grows.refl _⟩
set_option maxHeartbeats 1000000 in
theorem join_any (a b c : Int) (w : World) :
    Calls Tryd.prog 7 #[.int .i64 a, .int .i64 b, .int .i64 c] w fun r w' => r = .returned (.tuple #[.int .u64 (joinZ a b c), .int .i64 (joinE a b c)]) ∧ Grows w w' := by
  by_cases h : 0 ≤ a ∧ a ≤ 31 ∧ 0 ≤ b ∧ b ≤ 31 ∧ 0 ≤ c ∧ c ≤ 255
  · rw [joinZ, joinE, if_pos h, if_pos h]
    obtain ⟨a0, a1, b0, b1, c0, c1⟩ := h
    have e1 : bits .or .u64 (a * 8192) (b * 256) = a * 8192 + b * 256 := or_apart (k := 13) (by omega) (by omega) (by omega) (by omega)
    have e2 : bits .or .u64 (a * 8192 + b * 256) c = a * 8192 + b * 256 + c := or_apart (k := 8) (by omega) (by omega) (by omega) (by omega)
    have E : Hid (bits .or .u64 (bits .or .u64 (a * 8192) (b * 256)) c = a * 8192 + b * 256 + c) := Lib.hid (by rw [e1, e2])
    clear e1 e2
    go_enter Tryd.func7, Tryd.ntmps7
    go_wp2_with fail
    rw [E.out]
    go_ret2
    exact ⟨rfl, Grows.refl _⟩
  · rw [joinZ, joinE, if_neg h, if_neg h]
    by_cases h1 : a < 0
    · clear h
      go_enter Tryd.func7, Tryd.ntmps7
      go_wp2_with fail
      go_ret2
      exact ⟨rfl, Grows.refl _⟩
    by_cases h2 : 31 < a
    · clear h
      go_enter Tryd.func7, Tryd.ntmps7
      go_wp2_with fail
      go_ret2
      exact ⟨rfl, Grows.refl _⟩
    by_cases h3 : b < 0
    · clear h
      go_enter Tryd.func7, Tryd.ntmps7
      go_wp2_with fail
      go_ret2
      exact ⟨rfl, Grows.refl _⟩
    by_cases h4 : 31 < b
    · clear h
      go_enter Tryd.func7, Tryd.ntmps7
      go_wp2_with fail
      go_ret2
      exact ⟨rfl, Grows.refl _⟩
    by_cases h5 : c < 0
    · clear h
      go_enter Tryd.func7, Tryd.ntmps7
      go_wp2_with fail
      go_ret2
      exact ⟨rfl, Grows.refl _⟩
    by_cases h6 : 255 < c
    · clear h
      go_enter Tryd.func7, Tryd.ntmps7
      go_wp2_with fail
      go_ret2
      exact ⟨rfl, Grows.refl _⟩
    omega
end Go.Proofs.YtnkmelhggnelmaaDoor
