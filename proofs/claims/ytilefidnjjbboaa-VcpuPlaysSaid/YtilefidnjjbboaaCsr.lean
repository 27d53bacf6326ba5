/- What the functions of the package csr compute: none, known, Get, Set. -/
import Derived.Test.YtilefidnjjbboaaProg
import Derived.Test.YtilefidnjjbboaaBase
import Derived.Test.YtilefidnjjbboaaNum
import Derived.Test.YtilefidnjjbboaaCell
import Derived.OpenShut
import Derived.Lib.Hide
import Derived.StillTailTactics
namespace Go.Proofs.Ytilefidnjjbboaa
open Go Go.RowKit
set_option linter.unusedSimpArgs false
set_option linter.unusedVariables false
/-- Nothing but the block b turned; blocks may have come. -/
def Turns (b : Nat) (W w' : World) : Prop := W.heap.size ≤ w'.heap.size ∧ w'.os = W.os ∧ w'.tape = W.tape ∧ w'.output = W.output ∧ ∀ k, k < W.heap.size → k ≠ b → w'.heap[k]? = W.heap[k]?
theorem Turns_refl (b : Nat) (W : World) : Turns b W W := ⟨Nat.le_refl _, rfl, rfl, rfl, fun _ _ _ => rfl⟩
theorem Turns_trans {b : Nat} {x y z : World} (h : Turns b x y) (g : Turns b y z) : Turns b x z :=
  ⟨Nat.le_trans h.1 g.1, g.2.1.trans h.2.1, g.2.2.1.trans h.2.2.1, g.2.2.2.1.trans h.2.2.2.1, fun k hk hn => (g.2.2.2.2 k (Nat.lt_of_lt_of_le hk h.1) hn).trans (h.2.2.2.2 k hk hn)⟩
theorem Turns_grows {b : Nat} {x y : World} (h : Grows x y) : Turns b x y :=
  ⟨h.size, h.below.os, h.below.tape, h.below.output, fun k hk _ => h.get hk⟩
theorem Turns_setCell {b : Nat} {x y : World} (h : Turns b x y) (o : Nat) (v : Value) : Turns b x (y.setCell ⟨b, o, none⟩ v) := by
  refine Turns_trans h ⟨by simp [World.setCell], rfl, rfl, rfl, fun k hk hn => ?_⟩
  show (y.heap.modify b _)[k]? = _
  rw [Array.getElem?_modify, if_neg (Ne.symm hn)]
theorem Grows_turns {a W w' : World} {b : Nat} (hg : Grows a W) (hb : a.heap.size ≤ b) (h : Turns b W w') : Grows a w' := by
  refine Grows.of_heap (h.2.1.trans hg.below.os) (h.2.2.1.trans hg.below.tape) (h.2.2.2.1.trans hg.below.output) (Nat.le_trans hg.size h.1) (fun k hk => ?_)
  rw [h.2.2.2.2 k (hg.lt hk) (by omega), hg.get hk]
theorem Row_turns {W w' : World} {b k : Nat} {c : Array Value} {t : TypeId} (hr : Row W k c t) (hn : k ≠ b) (h : Turns b W w') : Row w' k c t := by
  have := hr.lt
  unfold Row at *
  rw [h.2.2.2.2 k this hn]; exact hr
def fileA (r : Nat → Int) : Array Value := #[.bool true, .int .u64 (r 0), .int .u64 (r 1), .int .u64 (r 2), .int .u64 (r 3), .int .u64 (r 4), .int .u64 (r 5), .int .u64 (r 6), .int .u64 (r 7), .int .u64 (r 8), .int .u64 (r 9), .int .u64 (r 10), .int .u64 (r 11)]
def updR (r : Nat → Int) (n : Nat) (v : Int) : Nat → Int := fun j => if j = n then v else r j
abbrev File (W : World) (b : Nat) (r : Nat → Int) : Prop := Row W b (fileA r) 110
theorem file_at (r : Nat → Int) {n : Nat} (hn : n < 12) : (fileA r)[1 + n]? = some (.int .u64 (r n)) := by
  have : n = 0 ∨ n = 1 ∨ n = 2 ∨ n = 3 ∨ n = 4 ∨ n = 5 ∨ n = 6 ∨ n = 7 ∨ n = 8 ∨ n = 9 ∨ n = 10 ∨ n = 11 := by omega
  rcases this with rfl | rfl | rfl | rfl | rfl | rfl | rfl | rfl | rfl | rfl | rfl | rfl <;> rfl
theorem file_set {W : World} {b : Nat} {r : Nat → Int} (h : File W b r) {n : Nat} (hn : n < 12) (v : Int) : File (W.setCell ⟨b, 1 + n, none⟩ (.int .u64 v)) b (updR r n v) := by
  have := row_setCell h (i := 1 + n) (by simp [fileA]; omega) (.int .u64 v)
  have e : (fileA r).set (1 + n) (.int .u64 v) (by simp [fileA]; omega) = fileA (updR r n v) := by
    have : n = 0 ∨ n = 1 ∨ n = 2 ∨ n = 3 ∨ n = 4 ∨ n = 5 ∨ n = 6 ∨ n = 7 ∨ n = 8 ∨ n = 9 ∨ n = 10 ∨ n = 11 := by omega
    rcases this with rfl | rfl | rfl | rfl | rfl | rfl | rfl | rfl | rfl | rfl | rfl | rfl <;> simp [fileA, updR]
  rw [e] at this
  exact this
theorem none_any {b : Nat} {r : Nat → Int} {W : World} (h : File W b r) :
    Calls Try.prog 42 #[.pointer (some ⟨b, 0, none⟩)] W fun e w' => e = .returned (.bool false) ∧ w' = W := by
  have c0 : W.cell? ⟨b, 0, none⟩ = some (.bool true) := h.cell 0
  go_enter Try.func42, Try.ntmps42
  go_wp2_with fail
  go_ret
  exact ⟨rfl, rfl⟩
theorem known_any (n : Int) (W : World) :
    Calls Try.prog 43 #[.int .i64 n] W fun e w' => e = .returned (.bool (decide (0 ≤ n) && decide (n < 12))) ∧ w' = W := by
  by_cases h0 : 0 ≤ n
  · by_cases h1 : n < 12
    · go_enter Try.func43, Try.ntmps43
      go_wp2_with fail
      go_ret
      exact ⟨by simp [h0, h1], rfl⟩
    · go_enter Try.func43, Try.ntmps43
      go_wp2_with fail
      go_ret
      exact ⟨by simp [h1], rfl⟩
  · go_enter Try.func43, Try.ntmps43
    go_wp2_with fail
    go_ret
    exact ⟨by have : decide (0 ≤ n) = false := decide_eq_false (by omega)
              simp [this], rfl⟩
theorem known_in {n : Nat} (hn : n < 12) (W : World) :
    Calls Try.prog 43 #[.int .i64 n] W fun e w' => e = .returned (.bool true) ∧ w' = W :=
  (known_any n W).mono fun _ _ ⟨he, hw⟩ => ⟨by rw [he]; simp; omega, hw⟩
theorem get_any {b n : Nat} {r : Nat → Int} {W : World} (h : File W b r) (hn : n < 12) :
    Calls Try.prog 38 #[.pointer (some ⟨b, 0, none⟩), .int .i64 n] W fun e w' => e = .returned (.int .u64 (r n)) ∧ w' = W := by
  have c1 : W.cell? ⟨b, 1 + n, none⟩ = some (.int .u64 (r n)) := by rw [h.cell, file_at r hn]
  go_enter Try.func38, Try.ntmps38
  go_wp2_with fail
  refine (none_any h).mono ?_
  rintro _ _ ⟨rfl, rfl⟩
  go_wp2_with fail
  refine (known_in hn _).mono ?_
  rintro _ _ ⟨rfl, rfl⟩
  go_wp2_with fail
  go_ret
  exact ⟨rfl, rfl⟩
theorem set_any {b n : Nat} {r : Nat → Int} {W : World} (h : File W b r) (hn : n < 12) (v : Int) :
    Calls Try.prog 37 #[.pointer (some ⟨b, 0, none⟩), .int .i64 n, .int .u64 v] W fun e w' => e = .returned (.int .i64 0) ∧ File w' b (updR r n v) ∧ Turns b W w' := by
  have c1 : W.cell? ⟨b, 1 + n, none⟩ = some (.int .u64 (r n)) := by rw [h.cell, file_at r hn]
  have f1 := h.frozen (1 + n)
  have hF := file_set h hn v
  go_enter Try.func37, Try.ntmps37
  go_wp2_with fail
  refine (none_any h).mono ?_
  rintro _ _ ⟨rfl, rfl⟩
  go_wp2_with fail
  refine (known_in hn _).mono ?_
  rintro _ _ ⟨rfl, rfl⟩
  go_wp2_with fail
  go_ret
  exact ⟨rfl, hF, Turns_setCell (Turns_refl _ _) _ _⟩
theorem new_any {k : Int} (hk : 0 ≤ k ∧ k < 12) (W : World) :
    Calls Try.prog 29 #[.int .i64 k] W fun e w' => e = .returned (.pointer (some ⟨W.heap.size, 0, none⟩)) ∧ File w' W.heap.size (updR (fun _ => 0) 11 k) ∧ Grows W w' := by
  obtain ⟨h0, h1⟩ := hk
  go_enter Try.func29, Try.ntmps29
  go_wp2_with fail
  go_ret
  exact ⟨rfl, Row.new_at _ _ _ rfl, (Grows.refl _).alloc _⟩
theorem updR_updR (r : Nat → Int) (n : Nat) (v u : Int) : updR (updR r n v) n u = updR r n u := by
  funext j; unfold updR; split <;> rfl
def lineZ (p m : Int) (on : Bool) : Int := if on then bits .or .u64 (bits .andNot .u64 p m) m else bits .andNot .u64 p m
end Go.Proofs.Ytilefidnjjbboaa
