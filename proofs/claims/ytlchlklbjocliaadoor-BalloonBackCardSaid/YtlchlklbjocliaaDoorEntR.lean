/- What the reference of the package entry computes: may, bit, Pack, Leaf, Allows. -/
import Derived.Test.YtlchlklbjocliaaDoorEntP
namespace Go.Proofs.YtlchlklbjocliaaDoor
open Go Go.RowKit
set_option linter.unusedSimpArgs false
set_option linter.unusedVariables false
set_option maxRecDepth 100000
set_option maxHeartbeats 1000000 in
theorem may_any (a b c d e f g : Bool) (n : Int) (w : World) :
    Calls Tryd.prog 102 #[.agg #[.bool a, .bool b, .bool c, .bool d, .bool e, .bool f, .bool g, .int .i64 n]] w fun r w' => r = .returned (.bool (rightB a b c d e f g n)) ∧ Grows w w' := by
  have he := eq_rentry
  cases a
  · go_enter Tryd.func102, Tryd.ntmps102
    go_wp2_with fail
    go_ret
    exact ⟨by simp [rightB], ((Grows.refl _).alloc _)⟩
  · by_cases h0 : 0 ≤ n ∧ n < 65536
    · obtain ⟨h0, h1⟩ := h0
      have hd0 : decide (0 ≤ n) = true := decide_eq_true h0
      have hd1 : decide (n < 65536) = true := decide_eq_true h1
      cases c
      · cases b
        · cases d
          · cases e
            · cases f
              · go_enter Tryd.func102, Tryd.ntmps102
                go_wp2_with fail
                go_ret
                exact ⟨by simp [rightB, hd0, hd1], ((Grows.refl _).alloc _)⟩
              · go_enter Tryd.func102, Tryd.ntmps102
                go_wp2_with fail
                go_ret
                exact ⟨by simp [rightB, hd0, hd1], ((Grows.refl _).alloc _)⟩
            · go_enter Tryd.func102, Tryd.ntmps102
              go_wp2_with fail
              go_ret
              exact ⟨by simp [rightB, hd0, hd1], ((Grows.refl _).alloc _)⟩
          · go_enter Tryd.func102, Tryd.ntmps102
            go_wp2_with fail
            go_ret
            exact ⟨by simp [rightB, hd0, hd1], ((Grows.refl _).alloc _)⟩
        · go_enter Tryd.func102, Tryd.ntmps102
          go_wp2_with fail
          go_ret
          exact ⟨by simp [rightB, hd0, hd1], ((Grows.refl _).alloc _)⟩
      · cases b
        · go_enter Tryd.func102, Tryd.ntmps102
          go_wp2_with fail
          go_ret
          exact ⟨by simp [rightB, hd0, hd1], ((Grows.refl _).alloc _)⟩
        · go_enter Tryd.func102, Tryd.ntmps102
          go_wp2_with fail
          go_ret
          exact ⟨by simp [rightB, hd0, hd1], ((Grows.refl _).alloc _)⟩
    · have hz' : rightB true b c d e f g n = false := by
        have : (decide (0 ≤ n) && decide (n < 65536)) = false := by simp; omega
        simp [rightB, this]
      rw [hz']
      clear hz'
      by_cases h2 : n < 0
      · go_enter Tryd.func102, Tryd.ntmps102
        go_wp2_with fail
        go_ret
        exact ⟨by simp, ((Grows.refl _).alloc _)⟩
      · have h3 : 65536 ≤ n := by omega
        go_enter Tryd.func102, Tryd.ntmps102
        go_wp2_with fail
        go_ret
        exact ⟨by simp, ((Grows.refl _).alloc _)⟩
def bitP (k : Int) : Int := if k = 0 then 1 else if k = 1 then 2 else if k = 2 then 4 else if k = 3 then 8 else if k = 4 then 16 else if k = 5 then 32 else 64
@[simp, go_sem] theorem bitP0 : bitP 0 = 1 := rfl
@[simp, go_sem] theorem bitP1 : bitP 1 = 2 := rfl
@[simp, go_sem] theorem bitP2 : bitP 2 = 4 := rfl
@[simp, go_sem] theorem bitP3 : bitP 3 = 8 := rfl
@[simp, go_sem] theorem bitP4 : bitP 4 = 16 := rfl
@[simp, go_sem] theorem bitP5 : bitP 5 = 32 := rfl
@[simp, go_sem] theorem bitP6 : bitP 6 = 64 := rfl
theorem bit_any (x : Bool) (k : Int) (w : World) (h : 0 ≤ k ∧ k ≤ 6) :
    Calls Tryd.prog 103 #[.bool x, .int .i64 k] w fun r w' => r = .returned (.int .u64 (bit1 x * bitP k)) ∧ Grows w w' := by
  cases x
  · go_enter Tryd.func103, Tryd.ntmps103
    go_wp2_with fail
    go_ret
    exact ⟨by simp [bit1], Grows.refl _⟩
  · have : k = 0 ∨ k = 1 ∨ k = 2 ∨ k = 3 ∨ k = 4 ∨ k = 5 ∨ k = 6 := by omega
    rcases this with rfl | rfl | rfl | rfl | rfl | rfl | rfl
    all_goals
      clear h
      go_enter Tryd.func103, Tryd.ntmps103
      go_wp2_with fail
      go_ret
      exact ⟨by simp [bit1], Grows.refl _⟩
set_option maxHeartbeats 2000000 in
theorem rpack_any (a b c d e f g : Bool) (n : Int) (w : World) :
    Calls Tryd.prog 99 #[.agg #[.bool a, .bool b, .bool c, .bool d, .bool e, .bool f, .bool g, .int .i64 n]] w fun r w' => r = .returned (.tuple #[.int .u64 (packZ a b c d e f g n), .int .i64 (packE a b c d e f g n)]) ∧ Grows w w' := by
  cases hr : rightB a b c d e f g n
  · go_enter Tryd.func99, Tryd.ntmps99
    go_wp2_with fail
    refine (may_any _ _ _ _ _ _ _ _ _).mono ?_
    rintro _ w1 ⟨rfl, g1, rfl⟩
    rw [hr]
    go_wp2_with fail
    go_ret2
    exact ⟨by simp [packZ, packE, hr], ((Grows.refl _).alloc _).grow _⟩
  · obtain ⟨n0, n1⟩ := rightB_frame hr
    have la := bit1_le a; have lb := bit1_le b; have lc := bit1_le c; have ld := bit1_le d; have le := bit1_le e; have lf := bit1_le f; have lg := bit1_le g
    go_enter Tryd.func99, Tryd.ntmps99
    go_wp2_with fail
    refine (may_any _ _ _ _ _ _ _ _ _).mono ?_
    rintro _ w1 ⟨rfl, g1, rfl⟩
    rw [hr]
    go_wp2_with fail
    refine wp_region_grow (by kernel_rfl) (by kernel_rfl) ?_
    repeat (go_big_quiet_step ((go_at_call 103; exact Calls.quiet_grow (bit_any _ _ _ (by decide)))))
    refine wpQuiet_nil ?_
    intro _ hw'
    obtain ⟨g2, rfl⟩ := hw'
    go_wp2_with fail
    go_ret2
    exact ⟨by simp [packZ, packE, hr, flagsN]; omega, ((Grows.refl _).alloc _).grow _⟩
end Go.Proofs.YtlchlklbjocliaaDoor
