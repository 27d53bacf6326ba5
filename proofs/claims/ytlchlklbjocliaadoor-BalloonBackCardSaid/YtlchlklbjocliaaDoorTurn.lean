/- One block alone turns; blocks may come. -/
import Derived.Test.YtlchlklbjocliaaDoorBase
set_option linter.unusedVariables false
set_option maxRecDepth 100000
namespace Go
/-- Nothing but the block b turned; blocks may have come. -/
def Turn (b : Nat) (W w' : World) : Prop := W.heap.size ≤ w'.heap.size ∧ w'.os = W.os ∧ w'.tape = W.tape ∧ w'.output = W.output ∧ ∀ k, k < W.heap.size → k ≠ b → w'.heap[k]? = W.heap[k]?
theorem Turn.refl (b : Nat) (W : World) : Turn b W W := ⟨Nat.le_refl _, rfl, rfl, rfl, fun _ _ _ => rfl⟩
theorem Turn.trans {b : Nat} {x y z : World} (h : Turn b x y) (g : Turn b y z) : Turn b x z :=
  ⟨Nat.le_trans h.1 g.1, g.2.1.trans h.2.1, g.2.2.1.trans h.2.2.1, g.2.2.2.1.trans h.2.2.2.1, fun k hk hn => (g.2.2.2.2 k (Nat.lt_of_lt_of_le hk h.1) hn).trans (h.2.2.2.2 k hk hn)⟩
theorem Turn.of_grows {b : Nat} {x y : World} (h : Grows x y) : Turn b x y := ⟨h.size, h.below.os, h.below.tape, h.below.output, fun k hk _ => h.get hk⟩
theorem Turn.grow {b : Nat} {x y : World} (h : Turn b x y) (g : Pad) : Turn b x (y.grow g) := h.trans (Turn.of_grows (Grows.of y g))
theorem Turn.drew {b : Nat} {x y : World} (h : Turn b x y) : Turn b x y.drew := h
theorem Turn.alloc {b : Nat} {x y : World} (h : Turn b x y) (o : Obj) : Turn b x (y.alloc o) := h.trans (Turn.of_grows ((Grows.refl y).alloc o))
theorem Turn.setCell {b : Nat} {x y : World} (h : Turn b x y) (o : Nat) (v : Value) : Turn b x (y.setCell ⟨b, o, none⟩ v) := by
  refine h.trans ⟨by simp [World.setCell], rfl, rfl, rfl, fun k hk hn => ?_⟩
  show (y.heap.modify b _)[k]? = _
  rw [Array.getElem?_modify, if_neg (Ne.symm hn)]
theorem Turn.of_grownBy {b : Nat} {x y : World} (h : x.grownBy y (some b)) : Turn b x y := ⟨h.size, h.os, h.tape, h.output, fun k hk hn => h.block k hk (fun e => hn (by injection e))⟩
/-- What turns a block that came later only grows. -/
theorem Grows.turn {a W w' : World} {b : Nat} (hg : Grows a W) (hb : a.heap.size ≤ b) (h : Turn b W w') : Grows a w' := by
  refine Grows.of_heap (h.2.1.trans hg.below.os) (h.2.2.1.trans hg.below.tape) (h.2.2.2.1.trans hg.below.output) (Nat.le_trans hg.size h.1) (fun k hk => ?_)
  rw [h.2.2.2.2 k (hg.lt hk) (by omega), hg.get hk]
theorem Row.turn {W w' : World} {b k : Nat} {c : Array Value} {t : TypeId} (hr : Row W k c t) (hn : k ≠ b) (h : Turn b W w') : Row w' k c t := by
  have := hr.lt
  unfold Row at *
  rw [h.2.2.2.2 k this hn]; exact hr
theorem Turn.cell {b k o : Nat} {x y : World} (h : Turn b x y) (hk : k < x.heap.size) (hn : k ≠ b) : y.cell? ⟨k, o, none⟩ = x.cell? ⟨k, o, none⟩ := World.cell?_of_block (h.2.2.2.2 k hk hn)
theorem Turn.lt {b k : Nat} {x y : World} (h : Turn b x y) (hk : k < x.heap.size) : k < y.heap.size := Nat.lt_of_lt_of_le hk h.1
end Go
