/- What Enter and Leave of the package csr compute. -/
import Derived.Test.YtoehigcojgeioaaCsrD
import Derived.BigRegion
namespace Go.Proofs.Ytoehigcojgeioaa
open Go Go.RowKit
set_option linter.unusedSimpArgs false
set_option linter.unusedVariables false
def enterS (x m : Int) : Int := if m = 1 then bits .or .u64 (if bits .and .u64 x 2 = 0 then bits .andNot .u64 x 290 else bits .or .u64 (bits .andNot .u64 x 290) 32) 256 else (if bits .and .u64 x 2 = 0 then bits .andNot .u64 x 290 else bits .or .u64 (bits .andNot .u64 x 290) 32)
def Entered (b : Nat) (r : Nat → Int) (v pc m : Int) (w' : World) : Prop := ∃ r', File w' b r' ∧ r' 0 = enterS (r 0) m ∧ r' 4 = bits .andNot .u64 pc 3 ∧ r' 6 = v
theorem file_drew {W : World} {b : Nat} {r : Nat → Int} (h : File W b r) : File W.drew b r := h
theorem turns_drew {x y : World} {b : Nat} (h : Turns b x y) : Turns b x y.drew := h
set_option maxHeartbeats 4000000 in
theorem enter_small {b : Nat} {r : Nat → Int} {W : World} (h : File W b r) (c v g pc m : Int) (hc : c < 4611686018427387904) (hm : m = 0 ∨ m = 1) :
    Calls Try.prog 14 #[.pointer (some ⟨b, 0, none⟩), .agg #[.int .i64 c, .int .u64 v, .int .u64 g], .int .u64 pc, .int .i64 m] W fun e w' => e = .returned (.tuple #[.int .u64 (r 3), .int .i64 1]) ∧ Entered b r v pc m w' ∧ Turns b W w' := by
  have hc' : decide (4611686018427387904 ≤ c) = false := decide_eq_false (by omega)
  by_cases h2 : bits .and .u64 (r 0) 2 = 0
  · have h2' : (bits .and .u64 (r 0) 2 != 0) = false := by simp [h2]
    rcases hm with rfl | rfl
    · go_enter Try.func14, Try.ntmps14
      go_wp2_with fail
      obtain ⟨p, hp⟩ : ∃ p, p = W.heap.size := ⟨_, rfl⟩
      rw [← hp]
      obtain ⟨W1, hW1⟩ : ∃ W1, W1 = W.alloc (Obj.cells #[.int .i64 c, .int .u64 v, .int .u64 g] 40) := ⟨_, rfl⟩
      rw [← hW1]
      have hF : File W1 b r := by rw [hW1]; exact h.grows ((Grows.refl _).alloc _)
      have hP : Row W1 p #[.int .i64 c, .int .u64 v, .int .u64 g] 40 := by rw [hW1]; exact Row.new_at _ _ _ hp
      have hn : b ≠ p := by have := h.lt; omega
      have hT : Turns b W W1 := by rw [hW1]; exact Turns_grows ((Grows.refl _).alloc _)
      clear hW1 hp
      refine (none_any hF).mono ?_
      rintro _ W2 ⟨rfl, hw⟩
      rw [hw]
      clear hw W2
      have p0 : W1.cell? ⟨p, 0, none⟩ = some (.int .i64 c) := hP.cell 0
      have p1 : W1.cell? ⟨p, 1, none⟩ = some (.int .u64 v) := hP.cell 1
      have f0 : W1.cell? ⟨b, 1, none⟩ = some (.int .u64 (r 0)) := hF.cell 1
      have f3 : W1.cell? ⟨b, 4, none⟩ = some (.int .u64 (r 3)) := hF.cell 4
      have f4 : W1.cell? ⟨b, 5, none⟩ = some (.int .u64 (r 4)) := hF.cell 5
      have f5 : W1.cell? ⟨b, 6, none⟩ = some (.int .u64 (r 5)) := hF.cell 6
      have f6 : W1.cell? ⟨b, 7, none⟩ = some (.int .u64 (r 6)) := hF.cell 7
      have q0 := hF.frozen 1
      have q4 := hF.frozen 5
      have q5 := hF.frozen 6
      have q6 := hF.frozen 7
      have lb := hF.lt
      have lp := hP.lt
      go_wp2_with fail
      go_region
      go_wp2_with fail
      go_ret2
      refine ⟨rfl, ⟨updR (updR (updR (updR r 4 (bits .andNot .u64 pc 3)) 5 (IntKind.u64.wrap c)) 6 v) 0 (bits .andNot .u64 (r 0) 290), ?_, ?_, by simp [updR], by simp [updR]⟩, ?_⟩
      · exact file_set (n := 0) (file_set (n := 6) (file_set (n := 5) (file_set (n := 4) hF (by omega) _) (by omega) _) (by omega) _) (by omega) _
      · simp [updR, enterS, *]
      · exact Turns_setCell (turns_drew (Turns_setCell (Turns_setCell (Turns_setCell hT _ _) _ _) _ _)) _ _
    · go_enter Try.func14, Try.ntmps14
      go_wp2_with fail
      obtain ⟨p, hp⟩ : ∃ p, p = W.heap.size := ⟨_, rfl⟩
      rw [← hp]
      obtain ⟨W1, hW1⟩ : ∃ W1, W1 = W.alloc (Obj.cells #[.int .i64 c, .int .u64 v, .int .u64 g] 40) := ⟨_, rfl⟩
      rw [← hW1]
      have hF : File W1 b r := by rw [hW1]; exact h.grows ((Grows.refl _).alloc _)
      have hP : Row W1 p #[.int .i64 c, .int .u64 v, .int .u64 g] 40 := by rw [hW1]; exact Row.new_at _ _ _ hp
      have hn : b ≠ p := by have := h.lt; omega
      have hT : Turns b W W1 := by rw [hW1]; exact Turns_grows ((Grows.refl _).alloc _)
      clear hW1 hp
      refine (none_any hF).mono ?_
      rintro _ W2 ⟨rfl, hw⟩
      rw [hw]
      clear hw W2
      have p0 : W1.cell? ⟨p, 0, none⟩ = some (.int .i64 c) := hP.cell 0
      have p1 : W1.cell? ⟨p, 1, none⟩ = some (.int .u64 v) := hP.cell 1
      have f0 : W1.cell? ⟨b, 1, none⟩ = some (.int .u64 (r 0)) := hF.cell 1
      have f3 : W1.cell? ⟨b, 4, none⟩ = some (.int .u64 (r 3)) := hF.cell 4
      have f4 : W1.cell? ⟨b, 5, none⟩ = some (.int .u64 (r 4)) := hF.cell 5
      have f5 : W1.cell? ⟨b, 6, none⟩ = some (.int .u64 (r 5)) := hF.cell 6
      have f6 : W1.cell? ⟨b, 7, none⟩ = some (.int .u64 (r 6)) := hF.cell 7
      have q0 := hF.frozen 1
      have q4 := hF.frozen 5
      have q5 := hF.frozen 6
      have q6 := hF.frozen 7
      have lb := hF.lt
      have lp := hP.lt
      go_wp2_with fail
      go_region
      go_wp2_with fail
      go_ret2
      refine ⟨rfl, ⟨updR (updR (updR (updR r 4 (bits .andNot .u64 pc 3)) 5 (IntKind.u64.wrap c)) 6 v) 0 (bits .or .u64 (bits .andNot .u64 (r 0) 290) 256), ?_, ?_, by simp [updR], by simp [updR]⟩, ?_⟩
      · exact file_set (n := 0) (file_set (n := 6) (file_set (n := 5) (file_set (n := 4) hF (by omega) _) (by omega) _) (by omega) _) (by omega) _
      · simp [updR, enterS, *]
      · exact Turns_setCell (turns_drew (Turns_setCell (Turns_setCell (Turns_setCell hT _ _) _ _) _ _)) _ _
  · have h2' : (bits .and .u64 (r 0) 2 != 0) = true := by simp [h2]
    rcases hm with rfl | rfl
    · go_enter Try.func14, Try.ntmps14
      go_wp2_with fail
      obtain ⟨p, hp⟩ : ∃ p, p = W.heap.size := ⟨_, rfl⟩
      rw [← hp]
      obtain ⟨W1, hW1⟩ : ∃ W1, W1 = W.alloc (Obj.cells #[.int .i64 c, .int .u64 v, .int .u64 g] 40) := ⟨_, rfl⟩
      rw [← hW1]
      have hF : File W1 b r := by rw [hW1]; exact h.grows ((Grows.refl _).alloc _)
      have hP : Row W1 p #[.int .i64 c, .int .u64 v, .int .u64 g] 40 := by rw [hW1]; exact Row.new_at _ _ _ hp
      have hn : b ≠ p := by have := h.lt; omega
      have hT : Turns b W W1 := by rw [hW1]; exact Turns_grows ((Grows.refl _).alloc _)
      clear hW1 hp
      refine (none_any hF).mono ?_
      rintro _ W2 ⟨rfl, hw⟩
      rw [hw]
      clear hw W2
      have p0 : W1.cell? ⟨p, 0, none⟩ = some (.int .i64 c) := hP.cell 0
      have p1 : W1.cell? ⟨p, 1, none⟩ = some (.int .u64 v) := hP.cell 1
      have f0 : W1.cell? ⟨b, 1, none⟩ = some (.int .u64 (r 0)) := hF.cell 1
      have f3 : W1.cell? ⟨b, 4, none⟩ = some (.int .u64 (r 3)) := hF.cell 4
      have f4 : W1.cell? ⟨b, 5, none⟩ = some (.int .u64 (r 4)) := hF.cell 5
      have f5 : W1.cell? ⟨b, 6, none⟩ = some (.int .u64 (r 5)) := hF.cell 6
      have f6 : W1.cell? ⟨b, 7, none⟩ = some (.int .u64 (r 6)) := hF.cell 7
      have q0 := hF.frozen 1
      have q4 := hF.frozen 5
      have q5 := hF.frozen 6
      have q6 := hF.frozen 7
      have lb := hF.lt
      have lp := hP.lt
      go_wp2_with fail
      go_region
      go_wp2_with fail
      go_ret2
      refine ⟨rfl, ⟨updR (updR (updR (updR r 4 (bits .andNot .u64 pc 3)) 5 (IntKind.u64.wrap c)) 6 v) 0 (bits .or .u64 (bits .andNot .u64 (r 0) 290) 32), ?_, ?_, by simp [updR], by simp [updR]⟩, ?_⟩
      · exact file_set (n := 0) (file_set (n := 6) (file_set (n := 5) (file_set (n := 4) hF (by omega) _) (by omega) _) (by omega) _) (by omega) _
      · simp [updR, enterS, *]
      · exact Turns_setCell (turns_drew (Turns_setCell (Turns_setCell (Turns_setCell hT _ _) _ _) _ _)) _ _
    · go_enter Try.func14, Try.ntmps14
      go_wp2_with fail
      obtain ⟨p, hp⟩ : ∃ p, p = W.heap.size := ⟨_, rfl⟩
      rw [← hp]
      obtain ⟨W1, hW1⟩ : ∃ W1, W1 = W.alloc (Obj.cells #[.int .i64 c, .int .u64 v, .int .u64 g] 40) := ⟨_, rfl⟩
      rw [← hW1]
      have hF : File W1 b r := by rw [hW1]; exact h.grows ((Grows.refl _).alloc _)
      have hP : Row W1 p #[.int .i64 c, .int .u64 v, .int .u64 g] 40 := by rw [hW1]; exact Row.new_at _ _ _ hp
      have hn : b ≠ p := by have := h.lt; omega
      have hT : Turns b W W1 := by rw [hW1]; exact Turns_grows ((Grows.refl _).alloc _)
      clear hW1 hp
      refine (none_any hF).mono ?_
      rintro _ W2 ⟨rfl, hw⟩
      rw [hw]
      clear hw W2
      have p0 : W1.cell? ⟨p, 0, none⟩ = some (.int .i64 c) := hP.cell 0
      have p1 : W1.cell? ⟨p, 1, none⟩ = some (.int .u64 v) := hP.cell 1
      have f0 : W1.cell? ⟨b, 1, none⟩ = some (.int .u64 (r 0)) := hF.cell 1
      have f3 : W1.cell? ⟨b, 4, none⟩ = some (.int .u64 (r 3)) := hF.cell 4
      have f4 : W1.cell? ⟨b, 5, none⟩ = some (.int .u64 (r 4)) := hF.cell 5
      have f5 : W1.cell? ⟨b, 6, none⟩ = some (.int .u64 (r 5)) := hF.cell 6
      have f6 : W1.cell? ⟨b, 7, none⟩ = some (.int .u64 (r 6)) := hF.cell 7
      have q0 := hF.frozen 1
      have q4 := hF.frozen 5
      have q5 := hF.frozen 6
      have q6 := hF.frozen 7
      have lb := hF.lt
      have lp := hP.lt
      go_wp2_with fail
      go_region
      go_wp2_with fail
      go_ret2
      refine ⟨rfl, ⟨updR (updR (updR (updR r 4 (bits .andNot .u64 pc 3)) 5 (IntKind.u64.wrap c)) 6 v) 0 (bits .or .u64 (bits .or .u64 (bits .andNot .u64 (r 0) 290) 32) 256), ?_, ?_, by simp [updR], by simp [updR]⟩, ?_⟩
      · exact file_set (n := 0) (file_set (n := 6) (file_set (n := 5) (file_set (n := 4) hF (by omega) _) (by omega) _) (by omega) _) (by omega) _
      · simp [updR, enterS, *]
      · exact Turns_setCell (turns_drew (Turns_setCell (Turns_setCell (Turns_setCell hT _ _) _ _) _ _)) _ _
end Go.Proofs.Ytoehigcojgeioaa
