/- What the functions of the package csr answer of a File that no call made. -/
import Derived.Test.YtoehigcojgeioaaCsr
namespace Go.Proofs.Ytoehigcojgeioaa
open Go Go.RowKit
set_option linter.unusedSimpArgs false
set_option linter.unusedVariables false
/-- No File, or one that no call made. -/
def Nobody (W : World) (F : Value) : Prop := F = .pointer none ∨ ∃ b, F = .pointer (some ⟨b, 0, none⟩) ∧ W.cell? ⟨b, 0, none⟩ = some (.bool false) ∧ b < W.heap.size
theorem Nobody_grows {W w' : World} {F : Value} (h : Nobody W F) (hg : Grows W w') : Nobody w' F := by
  rcases h with h | ⟨b, h, c, l⟩
  · exact Or.inl h
  · exact Or.inr ⟨b, h, by rw [hg.cell l]; exact c, hg.lt l⟩
theorem none_nob {W : World} {F : Value} (h : Nobody W F) :
    Calls Try.prog 19 #[F] W fun e w' => e = .returned (.bool true) ∧ Grows W w' := by
  rcases h with rfl | ⟨b, rfl, c, l⟩
  all_goals
    go_enter Try.func19, Try.ntmps19
    go_wp2_with fail
    go_ret
    exact ⟨rfl, Grows.refl _⟩
theorem wrong_nob {W : World} {F : Value} (h : Nobody W F) (n m : Int) :
    Calls Try.prog 22 #[F, .int .i64 n, .int .i64 m] W fun e w' => e = .returned (.int .i64 1) ∧ Grows W w' := by
  go_enter Try.func22, Try.ntmps22
  go_wp2_with fail
  refine (none_nob h).mono ?_
  rintro _ w1 ⟨rfl, g, rfl⟩
  go_wp2_with fail
  go_ret
  exact ⟨rfl, Grows.of _ _⟩
theorem read_nob {W : World} {F : Value} (h : Nobody W F) (n m : Int) :
    Calls Try.prog 16 #[F, .int .i64 n, .int .i64 m] W fun e w' => e = .returned (.tuple #[.int .u64 0, .int .i64 1]) ∧ Grows W w' := by
  go_enter Try.func16, Try.ntmps16
  go_wp2_with fail
  refine (wrong_nob h _ _).mono ?_
  rintro _ w1 ⟨rfl, g, rfl⟩
  go_wp2_with fail
  go_ret2
  exact ⟨rfl, Grows.of _ _⟩
theorem write_nob {W : World} {F : Value} (h : Nobody W F) (n m v : Int) :
    Calls Try.prog 13 #[F, .int .i64 n, .int .i64 m, .int .u64 v] W fun e w' => e = .returned (.int .i64 1) ∧ Grows W w' := by
  go_enter Try.func13, Try.ntmps13
  go_wp2_with fail
  refine (wrong_nob h _ _).mono ?_
  rintro _ w1 ⟨rfl, g, rfl⟩
  go_wp2_with fail
  go_ret
  exact ⟨rfl, Grows.of _ _⟩
theorem get_nob {W : World} {F : Value} (h : Nobody W F) (n : Int) :
    Calls Try.prog 10 #[F, .int .i64 n] W fun e w' => e = .returned (.int .u64 0) ∧ Grows W w' := by
  go_enter Try.func10, Try.ntmps10
  go_wp2_with fail
  refine (none_nob h).mono ?_
  rintro _ w1 ⟨rfl, g, rfl⟩
  go_wp2_with fail
  go_ret
  exact ⟨rfl, Grows.of _ _⟩
theorem set_nob {W : World} {F : Value} (h : Nobody W F) (n v : Int) :
    Calls Try.prog 9 #[F, .int .i64 n, .int .u64 v] W fun e w' => e = .returned (.int .i64 1) ∧ Grows W w' := by
  go_enter Try.func9, Try.ntmps9
  go_wp2_with fail
  refine (none_nob h).mono ?_
  rintro _ w1 ⟨rfl, g, rfl⟩
  go_wp2_with fail
  go_ret
  exact ⟨rfl, Grows.of _ _⟩
theorem line_nob {W : World} {F : Value} (h : Nobody W F) (n : Int) (on : Bool) :
    Calls Try.prog 8 #[F, .int .i64 n, .bool on] W fun e w' => e = .returned (.int .i64 1) ∧ Grows W w' := by
  go_enter Try.func8, Try.ntmps8
  go_wp2_with fail
  refine (none_nob h).mono ?_
  rintro _ w1 ⟨rfl, g, rfl⟩
  go_wp2_with fail
  go_ret
  exact ⟨rfl, Grows.of _ _⟩
theorem leave_nob {W : World} {F : Value} (h : Nobody W F) :
    Calls Try.prog 15 #[F] W fun e w' => e = .returned (.tuple #[.int .u64 0, .int .i64 0]) ∧ Grows W w' := by
  go_enter Try.func15, Try.ntmps15
  go_wp2_with fail
  refine (none_nob h).mono ?_
  rintro _ w1 ⟨rfl, g, rfl⟩
  go_wp2_with fail
  go_ret2
  exact ⟨rfl, Grows.of _ _⟩
theorem root_nob {W : World} {F : Value} (h : Nobody W F) :
    Calls Try.prog 17 #[F] W fun e w' => e = .returned (.int .i64 (-1)) ∧ Grows W w' := by
  go_enter Try.func17, Try.ntmps17
  go_wp2_with fail
  refine (none_nob h).mono ?_
  rintro _ w1 ⟨rfl, g, rfl⟩
  go_wp2_with fail
  go_ret
  exact ⟨rfl, Grows.of _ _⟩
theorem clone_nob {W : World} {F : Value} (h : Nobody W F) :
    Calls Try.prog 18 #[F] W fun e w' => e = .returned (.pointer none) ∧ Grows W w' := by
  go_enter Try.func18, Try.ntmps18
  go_wp2_with fail
  refine (none_nob h).mono ?_
  rintro _ w1 ⟨rfl, g, rfl⟩
  go_wp2_with fail
  go_ret
  exact ⟨rfl, Grows.of _ _⟩
set_option maxHeartbeats 2000000 in
theorem due_nob {W : World} {F : Value} (h : Nobody W F) (m : Int) :
    Calls Try.prog 11 #[F, .int .i64 m] W fun e w' => e = .returned (.tuple #[.int .i64 0, .bool false]) ∧ Grows W w' := by
  have h' := h
  rcases h' with rfl | ⟨b, rfl, -, -⟩
  all_goals
    go_enter Try.func11, Try.ntmps11
    go_wp2_with fail
    refine (none_nob (Nobody_grows h ((Grows.refl _).alloc _))).mono ?_
    rintro _ w1 ⟨rfl, g, rfl⟩
    clear h
    go_wp2_with fail
    go_ret2
    exact ⟨rfl, ((Grows.refl _).alloc _).grow _⟩
set_option maxHeartbeats 2000000 in
theorem enter_nob {W : World} {F : Value} (h : Nobody W F) (c v gu pc m : Int) :
    Calls Try.prog 14 #[F, .agg #[.int .i64 c, .int .u64 v, .int .u64 gu], .int .u64 pc, .int .i64 m] W fun e w' => e = .returned (.tuple #[.int .u64 0, .int .i64 0]) ∧ Grows W w' := by
  go_enter Try.func14, Try.ntmps14
  go_wp2_with fail
  refine (none_nob (Nobody_grows h ((Grows.refl _).alloc _))).mono ?_
  rintro _ w1 ⟨rfl, g, rfl⟩
  go_wp2_with fail
  go_ret2
  exact ⟨rfl, ((Grows.refl _).alloc _).grow _⟩
theorem wakes_nob {W : World} {F : Value} (h : Nobody W F) :
    Calls Try.prog 12 #[F] W fun e w' => e = .returned (.bool false) ∧ Grows W w' := by
  go_enter Try.func12, Try.ntmps12
  go_wp2_with fail
  refine wp_region_grow (by kernel_rfl) (by kernel_rfl) ?_
  repeat (go_big_quiet_step ((go_at_call 19; exact (none_nob (Nobody_grows h (Grows.of _ _))).mono (fun _ _ ⟨he, hw⟩ => ⟨he, (Grows.of _ _).trans hw⟩))))
  refine wpQuiet_nil ?_
  intro _ hw'
  obtain ⟨g, rfl⟩ := hw'
  go_wp2_with fail
  go_ret
  exact ⟨rfl, Grows.of _ _⟩
end Go.Proofs.Ytoehigcojgeioaa
