/- What Leave of the package csr computes. -/
import Derived.Test.YtoehigcojgeioaaCsrE
import Derived.BigRegion
namespace Go.Proofs.Ytoehigcojgeioaa
open Go Go.RowKit
set_option linter.unusedSimpArgs false
set_option linter.unusedVariables false
def leaveS (s : Int) : Int := if bits .and .u64 s 32 = 0 then bits .or .u64 (bits .andNot .u64 s 258) 32 else bits .or .u64 (bits .or .u64 (bits .andNot .u64 s 258) 32) 2
def leaveM (s : Int) : Int := if bits .and .u64 s 256 = 0 then 0 else 1
set_option maxHeartbeats 4000000 in
theorem leave_any {b : Nat} {r : Nat → Int} {W : World} (h : File W b r) :
    Calls Try.prog 15 #[.pointer (some ⟨b, 0, none⟩)] W fun e w' => e = .returned (.tuple #[.int .u64 (r 4), .int .i64 (leaveM (r 0))]) ∧ File w' b (updR r 0 (leaveS (r 0))) ∧ Turns b W w' := by
  by_cases h8 : bits .and .u64 (r 0) 256 = 0
  · have h8' : (bits .and .u64 (r 0) 256 != 0) = false := by simp [h8]
    by_cases h5 : bits .and .u64 (r 0) 32 = 0
    · have h5' : (bits .and .u64 (r 0) 32 != 0) = false := by simp [h5]
      go_enter Try.func15, Try.ntmps15
      go_wp2_with fail
      refine (none_any h).mono ?_
      rintro _ W2 ⟨rfl, hw⟩
      rw [hw]
      clear hw W2
      have f0 : W.cell? ⟨b, 1, none⟩ = some (.int .u64 (r 0)) := h.cell 1
      have f4 : W.cell? ⟨b, 5, none⟩ = some (.int .u64 (r 4)) := h.cell 5
      have q0 := h.frozen 1
      have lb := h.lt
      go_wp2_with fail
      go_ret2
      refine ⟨by simp [leaveM, *], ?_, Turns_setCell (Turns_refl _ _) _ _⟩
      rw [show leaveS (r 0) = bits .or .u64 (bits .andNot .u64 (r 0) 258) 32 by simp [leaveS, *]]
      exact file_set (n := 0) h (by omega) _
    · have h5' : (bits .and .u64 (r 0) 32 != 0) = true := by simp [h5]
      go_enter Try.func15, Try.ntmps15
      go_wp2_with fail
      refine (none_any h).mono ?_
      rintro _ W2 ⟨rfl, hw⟩
      rw [hw]
      clear hw W2
      have f0 : W.cell? ⟨b, 1, none⟩ = some (.int .u64 (r 0)) := h.cell 1
      have f4 : W.cell? ⟨b, 5, none⟩ = some (.int .u64 (r 4)) := h.cell 5
      have q0 := h.frozen 1
      have lb := h.lt
      go_wp2_with fail
      go_region
      go_wp2_with fail
      go_ret2
      refine ⟨by simp [leaveM, *], ?_, ?_⟩
      · rw [show leaveS (r 0) = bits .or .u64 (bits .or .u64 (bits .andNot .u64 (r 0) 258) 32) 2 by simp [leaveS, *]]
        rw [← updR_updR r 0 (bits .or .u64 (bits .andNot .u64 (r 0) 258) 32)]
        exact file_set (n := 0) (file_set (n := 0) h (by omega) _) (by omega) _
      · exact Turns_setCell (turns_drew (Turns_setCell (Turns_refl _ _) _ _)) _ _
  · have h8' : (bits .and .u64 (r 0) 256 != 0) = true := by simp [h8]
    by_cases h5 : bits .and .u64 (r 0) 32 = 0
    · have h5' : (bits .and .u64 (r 0) 32 != 0) = false := by simp [h5]
      go_enter Try.func15, Try.ntmps15
      go_wp2_with fail
      refine (none_any h).mono ?_
      rintro _ W2 ⟨rfl, hw⟩
      rw [hw]
      clear hw W2
      have f0 : W.cell? ⟨b, 1, none⟩ = some (.int .u64 (r 0)) := h.cell 1
      have f4 : W.cell? ⟨b, 5, none⟩ = some (.int .u64 (r 4)) := h.cell 5
      have q0 := h.frozen 1
      have lb := h.lt
      go_wp2_with fail
      go_ret2
      refine ⟨by simp [leaveM, *], ?_, Turns_setCell (Turns_refl _ _) _ _⟩
      rw [show leaveS (r 0) = bits .or .u64 (bits .andNot .u64 (r 0) 258) 32 by simp [leaveS, *]]
      exact file_set (n := 0) h (by omega) _
    · have h5' : (bits .and .u64 (r 0) 32 != 0) = true := by simp [h5]
      go_enter Try.func15, Try.ntmps15
      go_wp2_with fail
      refine (none_any h).mono ?_
      rintro _ W2 ⟨rfl, hw⟩
      rw [hw]
      clear hw W2
      have f0 : W.cell? ⟨b, 1, none⟩ = some (.int .u64 (r 0)) := h.cell 1
      have f4 : W.cell? ⟨b, 5, none⟩ = some (.int .u64 (r 4)) := h.cell 5
      have q0 := h.frozen 1
      have lb := h.lt
      go_wp2_with fail
      go_region
      go_wp2_with fail
      go_ret2
      refine ⟨by simp [leaveM, *], ?_, ?_⟩
      · rw [show leaveS (r 0) = bits .or .u64 (bits .or .u64 (bits .andNot .u64 (r 0) 258) 32) 2 by simp [leaveS, *]]
        rw [← updR_updR r 0 (bits .or .u64 (bits .andNot .u64 (r 0) 258) 32)]
        exact file_set (n := 0) (file_set (n := 0) h (by omega) _) (by omega) _
      · exact Turns_setCell (turns_drew (Turns_setCell (Turns_refl _ _) _ _)) _ _
end Go.Proofs.Ytoehigcojgeioaa
