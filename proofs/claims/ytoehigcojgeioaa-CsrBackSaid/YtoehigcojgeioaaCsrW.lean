/- What wrong and Write of the package csr compute, in Kernel, of a register that is known. -/
import Derived.Test.YtoehigcojgeioaaCsr
namespace Go.Proofs.Ytoehigcojgeioaa
open Go Go.RowKit
set_option linter.unusedSimpArgs false
set_option linter.unusedVariables false
theorem wrong_kern {b n : Nat} {r : Nat → Int} {W : World} (h : File W b r) (hn : n < 12) :
    Calls Try.prog 22 #[.pointer (some ⟨b, 0, none⟩), .int .i64 n, .int .i64 1] W fun e w' => e = .returned (.int .i64 0) ∧ w' = W := by
  go_enter Try.func22, Try.ntmps22
  go_wp2_with fail
  refine (none_any h).mono ?_
  rintro _ _ ⟨rfl, rfl⟩
  go_wp2_with fail
  refine (known_in hn _).mono ?_
  rintro _ _ ⟨rfl, rfl⟩
  go_wp2_with fail
  go_ret
  exact ⟨rfl, rfl⟩
def writeE (n : Nat) : Int := if n = 9 ∨ n = 11 then 14 else if n = 10 then 17 else 0
def writeM (n : Nat) (v : Int) : Int := if n = 0 then 290 else if n = 1 then 546 else if n = 2 then 2 else if n = 8 then (if bits .and .u64 v 9223372036854775808 = 0 then 0 else 9223372036854841343) else if n = 3 ∨ n = 4 then 18446744073709551612 else 18446744073709551615
def writeZ (n : Nat) (v old : Int) : Int := bits .or .u64 (bits .and .u64 v (writeM n v)) (if n = 2 then bits .andNot .u64 old 2 else 0)
def writeR (r : Nat → Int) (n : Nat) (v : Int) : Nat → Int := if writeE n = 0 then updR r n (writeZ n v (r n)) else r
set_option maxHeartbeats 4000000 in
theorem write_kern {b n : Nat} {r : Nat → Int} {W : World} (h : File W b r) (hn : n < 12) (v : Int) :
    Calls Try.prog 13 #[.pointer (some ⟨b, 0, none⟩), .int .i64 n, .int .i64 1, .int .u64 v] W fun e w' => e = .returned (.int .i64 (writeE n)) ∧ File w' b (writeR r n v) ∧ Turns b W w' := by
  have : n = 0 ∨ n = 1 ∨ n = 2 ∨ n = 3 ∨ n = 4 ∨ n = 5 ∨ n = 6 ∨ n = 7 ∨ n = 8 ∨ n = 9 ∨ n = 10 ∨ n = 11 := by omega
  rcases this with rfl | rfl | rfl | rfl | rfl | rfl | rfl | rfl | rfl | rfl | rfl | rfl
  · have c1 : W.cell? ⟨b, 0 + 1, none⟩ = some (.int .u64 (r 0)) := h.cell (0 + 1)
    have f1 := h.frozen (0 + 1)
    have lb := h.lt
    have hF := fun u => file_set h (n := 0) (by omega) u
    have hw := wrong_kern h (n := 0) (by omega)
    go_enter Try.func13, Try.ntmps13
    go_wp2_with fail
    refine hw.mono ?_
    rintro _ W1 ⟨rfl, hw1⟩
    rw [hw1]
    clear hw1 W1 hw
    go_wp2_with fail
    go_ret
    exact ⟨rfl, hF _, Turns_setCell (Turns_refl _ _) _ _⟩
  · have c1 : W.cell? ⟨b, 1 + 1, none⟩ = some (.int .u64 (r 1)) := h.cell (1 + 1)
    have f1 := h.frozen (1 + 1)
    have lb := h.lt
    have hF := fun u => file_set h (n := 1) (by omega) u
    have hw := wrong_kern h (n := 1) (by omega)
    go_enter Try.func13, Try.ntmps13
    go_wp2_with fail
    refine hw.mono ?_
    rintro _ W1 ⟨rfl, hw1⟩
    rw [hw1]
    clear hw1 W1 hw
    go_wp2_with fail
    go_ret
    exact ⟨rfl, hF _, Turns_setCell (Turns_refl _ _) _ _⟩
  · have c1 : W.cell? ⟨b, 2 + 1, none⟩ = some (.int .u64 (r 2)) := h.cell (2 + 1)
    have f1 := h.frozen (2 + 1)
    have lb := h.lt
    have hF := fun u => file_set h (n := 2) (by omega) u
    have hw := wrong_kern h (n := 2) (by omega)
    go_enter Try.func13, Try.ntmps13
    go_wp2_with fail
    refine hw.mono ?_
    rintro _ W1 ⟨rfl, hw1⟩
    rw [hw1]
    clear hw1 W1 hw
    go_wp2_with fail
    go_ret
    exact ⟨rfl, hF _, Turns_setCell (Turns_refl _ _) _ _⟩
  · have c1 : W.cell? ⟨b, 3 + 1, none⟩ = some (.int .u64 (r 3)) := h.cell (3 + 1)
    have f1 := h.frozen (3 + 1)
    have lb := h.lt
    have hF := fun u => file_set h (n := 3) (by omega) u
    have hw := wrong_kern h (n := 3) (by omega)
    go_enter Try.func13, Try.ntmps13
    go_wp2_with fail
    refine hw.mono ?_
    rintro _ W1 ⟨rfl, hw1⟩
    rw [hw1]
    clear hw1 W1 hw
    go_wp2_with fail
    go_ret
    exact ⟨rfl, hF _, Turns_setCell (Turns_refl _ _) _ _⟩
  · have c1 : W.cell? ⟨b, 4 + 1, none⟩ = some (.int .u64 (r 4)) := h.cell (4 + 1)
    have f1 := h.frozen (4 + 1)
    have lb := h.lt
    have hF := fun u => file_set h (n := 4) (by omega) u
    have hw := wrong_kern h (n := 4) (by omega)
    go_enter Try.func13, Try.ntmps13
    go_wp2_with fail
    refine hw.mono ?_
    rintro _ W1 ⟨rfl, hw1⟩
    rw [hw1]
    clear hw1 W1 hw
    go_wp2_with fail
    go_ret
    exact ⟨rfl, hF _, Turns_setCell (Turns_refl _ _) _ _⟩
  · have c1 : W.cell? ⟨b, 5 + 1, none⟩ = some (.int .u64 (r 5)) := h.cell (5 + 1)
    have f1 := h.frozen (5 + 1)
    have lb := h.lt
    have hF := fun u => file_set h (n := 5) (by omega) u
    have hw := wrong_kern h (n := 5) (by omega)
    go_enter Try.func13, Try.ntmps13
    go_wp2_with fail
    refine hw.mono ?_
    rintro _ W1 ⟨rfl, hw1⟩
    rw [hw1]
    clear hw1 W1 hw
    go_wp2_with fail
    go_ret
    exact ⟨rfl, hF _, Turns_setCell (Turns_refl _ _) _ _⟩
  · have c1 : W.cell? ⟨b, 6 + 1, none⟩ = some (.int .u64 (r 6)) := h.cell (6 + 1)
    have f1 := h.frozen (6 + 1)
    have lb := h.lt
    have hF := fun u => file_set h (n := 6) (by omega) u
    have hw := wrong_kern h (n := 6) (by omega)
    go_enter Try.func13, Try.ntmps13
    go_wp2_with fail
    refine hw.mono ?_
    rintro _ W1 ⟨rfl, hw1⟩
    rw [hw1]
    clear hw1 W1 hw
    go_wp2_with fail
    go_ret
    exact ⟨rfl, hF _, Turns_setCell (Turns_refl _ _) _ _⟩
  · have c1 : W.cell? ⟨b, 7 + 1, none⟩ = some (.int .u64 (r 7)) := h.cell (7 + 1)
    have f1 := h.frozen (7 + 1)
    have lb := h.lt
    have hF := fun u => file_set h (n := 7) (by omega) u
    have hw := wrong_kern h (n := 7) (by omega)
    go_enter Try.func13, Try.ntmps13
    go_wp2_with fail
    refine hw.mono ?_
    rintro _ W1 ⟨rfl, hw1⟩
    rw [hw1]
    clear hw1 W1 hw
    go_wp2_with fail
    go_ret
    exact ⟨rfl, hF _, Turns_setCell (Turns_refl _ _) _ _⟩
  · by_cases h8 : bits .and .u64 v 9223372036854775808 = 0
    · have hm : writeM 8 v = 0 := by simp [writeM, h8]
      have hR : writeR r 8 v = updR r 8 (bits .or .u64 (bits .and .u64 v 0) 0) := by
        show updR r 8 (writeZ 8 v (r 8)) = _
        simp [writeZ, hm]
      have HR := Lib.hid hR
      clear hm hR
      have h8' : (bits .and .u64 v 9223372036854775808 != 0) = false := by simp [h8]
      have c1 : W.cell? ⟨b, 8 + 1, none⟩ = some (.int .u64 (r 8)) := h.cell (8 + 1)
      have f1 := h.frozen (8 + 1)
      have lb := h.lt
      have hF := fun u => file_set h (n := 8) (by omega) u
      have hw := wrong_kern h (n := 8) (by omega)
      go_enter Try.func13, Try.ntmps13
      go_wp2_with fail
      refine hw.mono ?_
      rintro _ W1 ⟨rfl, hw1⟩
      rw [hw1]
      clear hw1 W1 hw
      go_wp2_with fail
      go_ret
      exact ⟨rfl, by rw [HR.out]; exact hF _, Turns_setCell (Turns_refl _ _) _ _⟩
    · have hm : writeM 8 v = 9223372036854841343 := by simp [writeM, h8]
      have hR : writeR r 8 v = updR r 8 (bits .or .u64 (bits .and .u64 v 9223372036854841343) 0) := by
        show updR r 8 (writeZ 8 v (r 8)) = _
        simp [writeZ, hm]
      have HR := Lib.hid hR
      clear hm hR
      have h8' : (bits .and .u64 v 9223372036854775808 != 0) = true := by simp [h8]
      have c1 : W.cell? ⟨b, 8 + 1, none⟩ = some (.int .u64 (r 8)) := h.cell (8 + 1)
      have f1 := h.frozen (8 + 1)
      have lb := h.lt
      have hF := fun u => file_set h (n := 8) (by omega) u
      have hw := wrong_kern h (n := 8) (by omega)
      go_enter Try.func13, Try.ntmps13
      go_wp2_with fail
      refine hw.mono ?_
      rintro _ W1 ⟨rfl, hw1⟩
      rw [hw1]
      clear hw1 W1 hw
      go_wp2_with fail
      go_ret
      exact ⟨rfl, by rw [HR.out]; exact hF _, Turns_setCell (Turns_refl _ _) _ _⟩
  · have c1 : W.cell? ⟨b, 9 + 1, none⟩ = some (.int .u64 (r 9)) := h.cell (9 + 1)
    have f1 := h.frozen (9 + 1)
    have lb := h.lt
    have hF := fun u => file_set h (n := 9) (by omega) u
    have hw := wrong_kern h (n := 9) (by omega)
    go_enter Try.func13, Try.ntmps13
    go_wp2_with fail
    refine hw.mono ?_
    rintro _ W1 ⟨rfl, hw1⟩
    rw [hw1]
    clear hw1 W1 hw
    go_wp2_with fail
    go_ret
    exact ⟨rfl, h, Turns_refl _ _⟩
  · have c1 : W.cell? ⟨b, 10 + 1, none⟩ = some (.int .u64 (r 10)) := h.cell (10 + 1)
    have f1 := h.frozen (10 + 1)
    have lb := h.lt
    have hF := fun u => file_set h (n := 10) (by omega) u
    have hw := wrong_kern h (n := 10) (by omega)
    go_enter Try.func13, Try.ntmps13
    go_wp2_with fail
    refine hw.mono ?_
    rintro _ W1 ⟨rfl, hw1⟩
    rw [hw1]
    clear hw1 W1 hw
    go_wp2_with fail
    go_ret
    exact ⟨rfl, h, Turns_refl _ _⟩
  · have c1 : W.cell? ⟨b, 11 + 1, none⟩ = some (.int .u64 (r 11)) := h.cell (11 + 1)
    have f1 := h.frozen (11 + 1)
    have lb := h.lt
    have hF := fun u => file_set h (n := 11) (by omega) u
    have hw := wrong_kern h (n := 11) (by omega)
    go_enter Try.func13, Try.ntmps13
    go_wp2_with fail
    refine hw.mono ?_
    rintro _ W1 ⟨rfl, hw1⟩
    rw [hw1]
    clear hw1 W1 hw
    go_wp2_with fail
    go_ret
    exact ⟨rfl, h, Turns_refl _ _⟩
end Go.Proofs.Ytoehigcojgeioaa
