/- What a word says, in plain numbers. -/
import Derived.Test.YtjbgamifkgeodaaDoorInsn
import Derived.Test.YtjbgamifkgeodaaDoorCell
namespace Go.Proofs.YtjbgamifkgeodaaDoor
open Go Go.RowKit
set_option linter.unusedSimpArgs false
set_option linter.unusedVariables false
def dOp (x : Int) : Int := fieldZ x 26 6
def dRd (x : Int) : Int := fieldZ x 22 4
def dR1 (x : Int) : Int := if shapeZ (dOp x) = 5 then 0 else fieldZ x 18 4
def dR2 (x : Int) : Int := if shapeZ (dOp x) = 5 then 0 else fieldZ x 14 4
def dV (x : Int) : Int := if shapeZ (dOp x) = 5 then sgnZ (fieldZ x 0 18) 18 else sgnZ (fieldZ x 0 14) 14
def decB (x : Int) : Bool := validB (dOp x) (dRd x) (dR1 x) (dR2 x) (dV x) && encW (dOp x) (dRd x) (dR1 x) (dR2 x) (dV x) == x
theorem wf_of {x : Int} (h0 : -9223372036854775808 ≤ x) (h1 : x < 9223372036854775808) : wf64 x := by
  have e1 : IntKind.i64.min = -9223372036854775808 := by decide
  have e2 : IntKind.i64.max = 9223372036854775807 := by decide
  simp only [wf64, Lit.wf, e1, e2, Bool.and_eq_true, decide_eq_true_eq]
  omega
theorem wf_field (x a n : Int) : wf64 (fieldZ x a n) := by
  have := field_lt x a n
  exact wf_of (by omega) (by omega)
abbrev insnA (a b c d e : Int) : Array Value := #[.int .i64 a, .int .i64 b, .int .i64 c, .int .i64 d, .int .i64 e]
theorem row_set {w : World} {b : Nat} {c : Array Value} {t : TypeId} (h : Row w b c t) (i : Nat) (v : Value) : Row (w.setCell ⟨b, i, none⟩ v) b (c.setIfInBounds i v) t := by
  unfold Row at *
  show (w.heap.modify b _)[b]? = _
  rw [Array.getElem?_modify, if_pos rfl, h]
  rfl
end Go.Proofs.YtjbgamifkgeodaaDoor
