/- frames: Move. -/
import Derived.Test.YtlchlklbjocliaaDoorFrE
namespace Go.Proofs.YtlchlklbjocliaaDoor
open Go Go.RowKit
set_option linter.unusedSimpArgs false
set_option linter.unusedVariables false
set_option maxRecDepth 100000
theorem wrE_ok2 {n j o a : Nat} {T O : Nat → Nat} (hj : j < n) (hT : 0 < T j) (hO : O j = o) (ho : o < 17) (ha : a < 17) : wrE n T O j o (if isOwn (o : Int) ∧ isOwn (a : Int) then 0 else 2) = 0 := by
  rw [if_pos (show isOwn (o : Int) ∧ isOwn (a : Int) from ⟨⟨by omega, by omega⟩, ⟨by omega, by omega⟩⟩)]
  unfold wrE; rw [if_neg (by simp), if_neg (by omega), Int.toNat_natCast, if_neg (by omega)]
end Go.Proofs.YtlchlklbjocliaaDoor
