/- What Enter of the package csr computes of a great cause. -/
import Derived.Test.YtoehigcojgeioaaCsrE
import Derived.BigRegion
namespace Go.Proofs.Ytoehigcojgeioaa
open Go Go.RowKit
set_option linter.unusedSimpArgs false
set_option linter.unusedVariables false
set_option maxHeartbeats 4000000 in
theorem enter_great {b : Nat} {r : Nat → Int} {W : World} (h : File W b r) (c v g pc m : Int) (hc : 4611686018427387904 ≤ c) (hcm : c < 9223372036854775808) (hm : m = 0 ∨ m = 1) :
    Calls Try.prog 14 #[.pointer (some ⟨b, 0, none⟩), .agg #[.int .i64 c, .int .u64 v, .int .u64 g], .int .u64 pc, .int .i64 m] W fun e w' => e = .returned (.tuple #[.int .u64 (r 3), .int .i64 1]) ∧ Entered b r v pc m w' ∧ Turns b W w' := by
  have hc' : decide (4611686018427387904 ≤ c) = true := decide_eq_true (by omega)
  by_cases h2 : bits .and .u64 (r 0) 2 = 0
  · have h2' : (bits .and .u64 (r 0) 2 != 0) = false := by simp [h2]
    rcases hm with rfl | rfl
    · go_enter Try.func14, Try.ntmps14
      go_wp2_with fail
      obtain ⟨p, hp⟩ : ∃ p, p = W.heap.size := ⟨_, rfl⟩
      rw [← hp]
      obtain ⟨W1, hW1⟩ : ∃ W1, W1 = W.alloc (Obj.cells #[.int .i64 c, .int .u64 v, .int .u64 g] 40) := ⟨_, rfl⟩
      rw [← hW1]
      have hF : File W1 b r := by rw [hW1]; exact h.grows ((Grows.refl _).alloc _)
      have hP : Row W1 p #[.int .i64 c, .int .u64 v, .int .u64 g] 40 := by rw [hW1]; exact Row.new_at _ _ _ hp
      have hn : b ≠ p := by have := h.lt; omega
      have hT : Turns b W W1 := by rw [hW1]; exact Turns_grows ((Grows.refl _).alloc _)
      clear hW1 hp
      refine (none_any hF).mono ?_
      rintro _ W2 ⟨rfl, hw⟩
      rw [hw]
      clear hw W2
      have p0 : W1.cell? ⟨p, 0, none⟩ = some (.int .i64 c) := hP.cell 0
      have p1 : W1.cell? ⟨p, 1, none⟩ = some (.int .u64 v) := hP.cell 1
      have f0 : W1.cell? ⟨b, 1, none⟩ = some (.int .u64 (r 0)) := hF.cell 1
      have f3 : W1.cell? ⟨b, 4, none⟩ = some (.int .u64 (r 3)) := hF.cell 4
      have f4 : W1.cell? ⟨b, 5, none⟩ = some (.int .u64 (r 4)) := hF.cell 5
      have f5 : W1.cell? ⟨b, 6, none⟩ = some (.int .u64 (r 5)) := hF.cell 6
      have f6 : W1.cell? ⟨b, 7, none⟩ = some (.int .u64 (r 6)) := hF.cell 7
      have q0 := hF.frozen 1
      have q4 := hF.frozen 5
      have q5 := hF.frozen 6
      have q6 := hF.frozen 7
      have lb := hF.lt
      have lp := hP.lt
      go_wp2_with fail
      go_region
      go_wp2_with fail
      clear hc hcm hc'
      obtain ⟨W2, hW2⟩ : ∃ W2, W2 = (((W1.setCell ⟨b, 5, none⟩ (.int .u64 (bits .andNot .u64 pc 3))).setCell ⟨b, 6, none⟩ (.int .u64 c)).setCell ⟨b, 7, none⟩ (.int .u64 v)).drew := ⟨_, rfl⟩
      rw [← hW2]
      have hF2 : File W2 b (updR (updR (updR r 4 (bits .andNot .u64 pc 3)) 5 c) 6 v) := by rw [hW2]; exact file_set (n := 6) (file_set (n := 5) (file_set (n := 4) hF (by omega) _) (by omega) _) (by omega) _
      have hP2 : Row W2 p #[.int .i64 c, .int .u64 v, .int .u64 g] 40 := by rw [hW2]; exact row_setOther (row_setOther (row_setOther hP hn _) hn _) hn _
      have hT2 : Turns b W W2 := by rw [hW2]; exact turns_drew (Turns_setCell (Turns_setCell (Turns_setCell hT _ _) _ _) _ _)
      clear hW2 p0 p1 f0 f3 f4 f5 f6 q0 q4 q5 q6 lb lp hF hP hT h
      have p0 : W2.cell? ⟨p, 0, none⟩ = some (.int .i64 c) := hP2.cell 0
      have f0 : W2.cell? ⟨b, 1, none⟩ = some (.int .u64 (r 0)) := hF2.cell 1
      have f3 : W2.cell? ⟨b, 4, none⟩ = some (.int .u64 (r 3)) := hF2.cell 4
      have f5 : W2.cell? ⟨b, 6, none⟩ = some (.int .u64 c) := hF2.cell 6
      have q0 := hF2.frozen 1
      have q5 := hF2.frozen 6
      have lb := hF2.lt
      have lp := hP2.lt
      go_region
      go_wp2_with fail
      go_ret2
      refine ⟨rfl, ⟨_, file_set (n := 0) (file_set (n := 5) hF2 (by omega) _) (by omega) _, ?_, by simp [updR], by simp [updR]⟩, ?_⟩
      · simp [updR, enterS, *]
      · exact Turns_setCell (turns_drew (Turns_setCell hT2 _ _)) _ _
    · go_enter Try.func14, Try.ntmps14
      go_wp2_with fail
      obtain ⟨p, hp⟩ : ∃ p, p = W.heap.size := ⟨_, rfl⟩
      rw [← hp]
      obtain ⟨W1, hW1⟩ : ∃ W1, W1 = W.alloc (Obj.cells #[.int .i64 c, .int .u64 v, .int .u64 g] 40) := ⟨_, rfl⟩
      rw [← hW1]
      have hF : File W1 b r := by rw [hW1]; exact h.grows ((Grows.refl _).alloc _)
      have hP : Row W1 p #[.int .i64 c, .int .u64 v, .int .u64 g] 40 := by rw [hW1]; exact Row.new_at _ _ _ hp
      have hn : b ≠ p := by have := h.lt; omega
      have hT : Turns b W W1 := by rw [hW1]; exact Turns_grows ((Grows.refl _).alloc _)
      clear hW1 hp
      refine (none_any hF).mono ?_
      rintro _ W2 ⟨rfl, hw⟩
      rw [hw]
      clear hw W2
      have p0 : W1.cell? ⟨p, 0, none⟩ = some (.int .i64 c) := hP.cell 0
      have p1 : W1.cell? ⟨p, 1, none⟩ = some (.int .u64 v) := hP.cell 1
      have f0 : W1.cell? ⟨b, 1, none⟩ = some (.int .u64 (r 0)) := hF.cell 1
      have f3 : W1.cell? ⟨b, 4, none⟩ = some (.int .u64 (r 3)) := hF.cell 4
      have f4 : W1.cell? ⟨b, 5, none⟩ = some (.int .u64 (r 4)) := hF.cell 5
      have f5 : W1.cell? ⟨b, 6, none⟩ = some (.int .u64 (r 5)) := hF.cell 6
      have f6 : W1.cell? ⟨b, 7, none⟩ = some (.int .u64 (r 6)) := hF.cell 7
      have q0 := hF.frozen 1
      have q4 := hF.frozen 5
      have q5 := hF.frozen 6
      have q6 := hF.frozen 7
      have lb := hF.lt
      have lp := hP.lt
      go_wp2_with fail
      go_region
      go_wp2_with fail
      clear hc hcm hc'
      obtain ⟨W2, hW2⟩ : ∃ W2, W2 = (((W1.setCell ⟨b, 5, none⟩ (.int .u64 (bits .andNot .u64 pc 3))).setCell ⟨b, 6, none⟩ (.int .u64 c)).setCell ⟨b, 7, none⟩ (.int .u64 v)).drew := ⟨_, rfl⟩
      rw [← hW2]
      have hF2 : File W2 b (updR (updR (updR r 4 (bits .andNot .u64 pc 3)) 5 c) 6 v) := by rw [hW2]; exact file_set (n := 6) (file_set (n := 5) (file_set (n := 4) hF (by omega) _) (by omega) _) (by omega) _
      have hP2 : Row W2 p #[.int .i64 c, .int .u64 v, .int .u64 g] 40 := by rw [hW2]; exact row_setOther (row_setOther (row_setOther hP hn _) hn _) hn _
      have hT2 : Turns b W W2 := by rw [hW2]; exact turns_drew (Turns_setCell (Turns_setCell (Turns_setCell hT _ _) _ _) _ _)
      clear hW2 p0 p1 f0 f3 f4 f5 f6 q0 q4 q5 q6 lb lp hF hP hT h
      have p0 : W2.cell? ⟨p, 0, none⟩ = some (.int .i64 c) := hP2.cell 0
      have f0 : W2.cell? ⟨b, 1, none⟩ = some (.int .u64 (r 0)) := hF2.cell 1
      have f3 : W2.cell? ⟨b, 4, none⟩ = some (.int .u64 (r 3)) := hF2.cell 4
      have f5 : W2.cell? ⟨b, 6, none⟩ = some (.int .u64 c) := hF2.cell 6
      have q0 := hF2.frozen 1
      have q5 := hF2.frozen 6
      have lb := hF2.lt
      have lp := hP2.lt
      go_region
      go_wp2_with fail
      go_ret2
      refine ⟨rfl, ⟨_, file_set (n := 0) (file_set (n := 5) hF2 (by omega) _) (by omega) _, ?_, by simp [updR], by simp [updR]⟩, ?_⟩
      · simp [updR, enterS, *]
      · exact Turns_setCell (turns_drew (Turns_setCell hT2 _ _)) _ _
  · have h2' : (bits .and .u64 (r 0) 2 != 0) = true := by simp [h2]
    rcases hm with rfl | rfl
    · go_enter Try.func14, Try.ntmps14
      go_wp2_with fail
      obtain ⟨p, hp⟩ : ∃ p, p = W.heap.size := ⟨_, rfl⟩
      rw [← hp]
      obtain ⟨W1, hW1⟩ : ∃ W1, W1 = W.alloc (Obj.cells #[.int .i64 c, .int .u64 v, .int .u64 g] 40) := ⟨_, rfl⟩
      rw [← hW1]
      have hF : File W1 b r := by rw [hW1]; exact h.grows ((Grows.refl _).alloc _)
      have hP : Row W1 p #[.int .i64 c, .int .u64 v, .int .u64 g] 40 := by rw [hW1]; exact Row.new_at _ _ _ hp
      have hn : b ≠ p := by have := h.lt; omega
      have hT : Turns b W W1 := by rw [hW1]; exact Turns_grows ((Grows.refl _).alloc _)
      clear hW1 hp
      refine (none_any hF).mono ?_
      rintro _ W2 ⟨rfl, hw⟩
      rw [hw]
      clear hw W2
      have p0 : W1.cell? ⟨p, 0, none⟩ = some (.int .i64 c) := hP.cell 0
      have p1 : W1.cell? ⟨p, 1, none⟩ = some (.int .u64 v) := hP.cell 1
      have f0 : W1.cell? ⟨b, 1, none⟩ = some (.int .u64 (r 0)) := hF.cell 1
      have f3 : W1.cell? ⟨b, 4, none⟩ = some (.int .u64 (r 3)) := hF.cell 4
      have f4 : W1.cell? ⟨b, 5, none⟩ = some (.int .u64 (r 4)) := hF.cell 5
      have f5 : W1.cell? ⟨b, 6, none⟩ = some (.int .u64 (r 5)) := hF.cell 6
      have f6 : W1.cell? ⟨b, 7, none⟩ = some (.int .u64 (r 6)) := hF.cell 7
      have q0 := hF.frozen 1
      have q4 := hF.frozen 5
      have q5 := hF.frozen 6
      have q6 := hF.frozen 7
      have lb := hF.lt
      have lp := hP.lt
      go_wp2_with fail
      go_region
      go_wp2_with fail
      clear hc hcm hc'
      obtain ⟨W2, hW2⟩ : ∃ W2, W2 = (((W1.setCell ⟨b, 5, none⟩ (.int .u64 (bits .andNot .u64 pc 3))).setCell ⟨b, 6, none⟩ (.int .u64 c)).setCell ⟨b, 7, none⟩ (.int .u64 v)).drew := ⟨_, rfl⟩
      rw [← hW2]
      have hF2 : File W2 b (updR (updR (updR r 4 (bits .andNot .u64 pc 3)) 5 c) 6 v) := by rw [hW2]; exact file_set (n := 6) (file_set (n := 5) (file_set (n := 4) hF (by omega) _) (by omega) _) (by omega) _
      have hP2 : Row W2 p #[.int .i64 c, .int .u64 v, .int .u64 g] 40 := by rw [hW2]; exact row_setOther (row_setOther (row_setOther hP hn _) hn _) hn _
      have hT2 : Turns b W W2 := by rw [hW2]; exact turns_drew (Turns_setCell (Turns_setCell (Turns_setCell hT _ _) _ _) _ _)
      clear hW2 p0 p1 f0 f3 f4 f5 f6 q0 q4 q5 q6 lb lp hF hP hT h
      have p0 : W2.cell? ⟨p, 0, none⟩ = some (.int .i64 c) := hP2.cell 0
      have f0 : W2.cell? ⟨b, 1, none⟩ = some (.int .u64 (r 0)) := hF2.cell 1
      have f3 : W2.cell? ⟨b, 4, none⟩ = some (.int .u64 (r 3)) := hF2.cell 4
      have f5 : W2.cell? ⟨b, 6, none⟩ = some (.int .u64 c) := hF2.cell 6
      have q0 := hF2.frozen 1
      have q5 := hF2.frozen 6
      have lb := hF2.lt
      have lp := hP2.lt
      go_region
      go_wp2_with fail
      go_ret2
      refine ⟨rfl, ⟨_, file_set (n := 0) (file_set (n := 5) hF2 (by omega) _) (by omega) _, ?_, by simp [updR], by simp [updR]⟩, ?_⟩
      · simp [updR, enterS, *]
      · exact Turns_setCell (turns_drew (Turns_setCell hT2 _ _)) _ _
    · go_enter Try.func14, Try.ntmps14
      go_wp2_with fail
      obtain ⟨p, hp⟩ : ∃ p, p = W.heap.size := ⟨_, rfl⟩
      rw [← hp]
      obtain ⟨W1, hW1⟩ : ∃ W1, W1 = W.alloc (Obj.cells #[.int .i64 c, .int .u64 v, .int .u64 g] 40) := ⟨_, rfl⟩
      rw [← hW1]
      have hF : File W1 b r := by rw [hW1]; exact h.grows ((Grows.refl _).alloc _)
      have hP : Row W1 p #[.int .i64 c, .int .u64 v, .int .u64 g] 40 := by rw [hW1]; exact Row.new_at _ _ _ hp
      have hn : b ≠ p := by have := h.lt; omega
      have hT : Turns b W W1 := by rw [hW1]; exact Turns_grows ((Grows.refl _).alloc _)
      clear hW1 hp
      refine (none_any hF).mono ?_
      rintro _ W2 ⟨rfl, hw⟩
      rw [hw]
      clear hw W2
      have p0 : W1.cell? ⟨p, 0, none⟩ = some (.int .i64 c) := hP.cell 0
      have p1 : W1.cell? ⟨p, 1, none⟩ = some (.int .u64 v) := hP.cell 1
      have f0 : W1.cell? ⟨b, 1, none⟩ = some (.int .u64 (r 0)) := hF.cell 1
      have f3 : W1.cell? ⟨b, 4, none⟩ = some (.int .u64 (r 3)) := hF.cell 4
      have f4 : W1.cell? ⟨b, 5, none⟩ = some (.int .u64 (r 4)) := hF.cell 5
      have f5 : W1.cell? ⟨b, 6, none⟩ = some (.int .u64 (r 5)) := hF.cell 6
      have f6 : W1.cell? ⟨b, 7, none⟩ = some (.int .u64 (r 6)) := hF.cell 7
      have q0 := hF.frozen 1
      have q4 := hF.frozen 5
      have q5 := hF.frozen 6
      have q6 := hF.frozen 7
      have lb := hF.lt
      have lp := hP.lt
      go_wp2_with fail
      go_region
      go_wp2_with fail
      clear hc hcm hc'
      obtain ⟨W2, hW2⟩ : ∃ W2, W2 = (((W1.setCell ⟨b, 5, none⟩ (.int .u64 (bits .andNot .u64 pc 3))).setCell ⟨b, 6, none⟩ (.int .u64 c)).setCell ⟨b, 7, none⟩ (.int .u64 v)).drew := ⟨_, rfl⟩
      rw [← hW2]
      have hF2 : File W2 b (updR (updR (updR r 4 (bits .andNot .u64 pc 3)) 5 c) 6 v) := by rw [hW2]; exact file_set (n := 6) (file_set (n := 5) (file_set (n := 4) hF (by omega) _) (by omega) _) (by omega) _
      have hP2 : Row W2 p #[.int .i64 c, .int .u64 v, .int .u64 g] 40 := by rw [hW2]; exact row_setOther (row_setOther (row_setOther hP hn _) hn _) hn _
      have hT2 : Turns b W W2 := by rw [hW2]; exact turns_drew (Turns_setCell (Turns_setCell (Turns_setCell hT _ _) _ _) _ _)
      clear hW2 p0 p1 f0 f3 f4 f5 f6 q0 q4 q5 q6 lb lp hF hP hT h
      have p0 : W2.cell? ⟨p, 0, none⟩ = some (.int .i64 c) := hP2.cell 0
      have f0 : W2.cell? ⟨b, 1, none⟩ = some (.int .u64 (r 0)) := hF2.cell 1
      have f3 : W2.cell? ⟨b, 4, none⟩ = some (.int .u64 (r 3)) := hF2.cell 4
      have f5 : W2.cell? ⟨b, 6, none⟩ = some (.int .u64 c) := hF2.cell 6
      have q0 := hF2.frozen 1
      have q5 := hF2.frozen 6
      have lb := hF2.lt
      have lp := hP2.lt
      go_region
      go_wp2_with fail
      go_ret2
      refine ⟨rfl, ⟨_, file_set (n := 0) (file_set (n := 5) hF2 (by omega) _) (by omega) _, ?_, by simp [updR], by simp [updR]⟩, ?_⟩
      · simp [updR, enterS, *]
      · exact Turns_setCell (turns_drew (Turns_setCell hT2 _ _)) _ _
theorem enter_any {b : Nat} {r : Nat → Int} {W : World} (h : File W b r) (c v g pc m : Int) (hcm : c < 9223372036854775808) (hm : m = 0 ∨ m = 1) :
    Calls Try.prog 14 #[.pointer (some ⟨b, 0, none⟩), .agg #[.int .i64 c, .int .u64 v, .int .u64 g], .int .u64 pc, .int .i64 m] W fun e w' => e = .returned (.tuple #[.int .u64 (r 3), .int .i64 1]) ∧ Entered b r v pc m w' ∧ Turns b W w' := by
  rcases Int.lt_or_le c 4611686018427387904 with hc | hc
  · exact enter_small h c v g pc m hc hm
  · exact enter_great h c v g pc m hc hcm hm
end Go.Proofs.Ytoehigcojgeioaa
