/- What the functions of the package entry do that the laws of layer 5 reach: Leaf, Allows. -/
import Derived.Test.YtlchlklbjocliaaDoorProg
import Derived.Test.YtlchlklbjocliaaDoorBase
namespace Go.Proofs.YtlchlklbjocliaaDoor
open Go Go.RowKit
set_option linter.unusedSimpArgs false
set_option linter.unusedVariables false
set_option maxRecDepth 100000
def ok3 (b c d : Bool) (k : Int) : Bool := if k == 0 then d else if k == 1 then b else if k == 2 then c else false
def allowsB (a b c d e : Bool) (k : Int) (u : Bool) : Bool := a && (b || d) && (e == u) && ok3 b c d k
theorem leaf_any (a b c d e f g : Bool) (n : Int) (w : World) :
    Calls Tryd.prog 72 #[.agg #[.bool a, .bool b, .bool c, .bool d, .bool e, .bool f, .bool g, .int .i64 n]] w fun r w' => r = .returned (.bool (a && (b || d))) ∧ Grows w w' := by
  go_enter Tryd.func72, Tryd.ntmps72
  cases a <;> cases b <;> go_wp2 <;> (go_ret; exact ⟨rfl, (Grows.refl _).alloc _⟩)

theorem allows_any (a b c d e f g : Bool) (n : Int) (k : Int) (u : Bool) (w : World) :
    Calls Tryd.prog 73 #[.agg #[.bool a, .bool b, .bool c, .bool d, .bool e, .bool f, .bool g, .int .i64 n], .int .i64 k, .bool u] w
     fun r w' => r = .returned (.bool (allowsB a b c d e k u)) ∧ Grows w w' := by
  go_enter Tryd.func73, Tryd.ntmps73
  go_wp2_with fail
  refine (leaf_any _ _ _ _ _ _ _ _ _).mono ?_
  rintro _ w1 ⟨rfl, g1, rfl⟩
  cases hl : (a && (b || d))
  · go_wp2
    go_ret
    exact ⟨by simp [allowsB, hl], ((Grows.refl _).alloc _).grow _⟩
  · cases he : (e == u)
    · have he' : (e != u) = true := by simp [bne, he]
      go_wp2
      go_ret
      exact ⟨by simp [allowsB, hl, he], ((Grows.refl _).alloc _).grow _⟩
    · have he' : (e != u) = false := by simp [bne, he]
      go_wp2
      all_goals
        go_ret
        refine ⟨?_, ((Grows.refl _).alloc _).grow _⟩
        simp [allowsB, ok3, *]
end Go.Proofs.YtlchlklbjocliaaDoor
