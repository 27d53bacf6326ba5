/- InsnDecodes: any word is the instruction of the reference, or none. For every word. No condition. -/
import Derived.Test.YtjbgamifkgeodaaInsnDecW
import Derived.Test.YtjbgamifkgeodaaRow
import Derived.Test.YtjbgamifkgeodaaRows
namespace Go.Proofs.Ytjbgamifkgeodaa
open Go Go.RowKit
set_option linter.unusedSimpArgs false
set_option linter.unusedVariables false
namespace insnDecodes
open Go.ChangeShapes Go.WideShapes Go.ChangeAt Go.RowKit
theorem own : ownKnob Try.prog.godebug = none := by kernel_rfl
set_option maxRecDepth 100000 in
theorem lifted (os : Os) (started : os.Started) (H : Type) (enc : TypeId × Value → H) :
    ReturnsInHanded {} Try.checked os 7 .any (Rows.insnDecodesSpec.pre6 enc Try.prog Try.f7 Rows.insnDecodesRow.domain false) (Rows.insnDecodesSpec.post enc Try.prog Try.f7 false true false false) := by
  refine law_lifted (C := Try.checked) started own (by kernel_rfl) Try.func7 rfl (by kernel_rfl) (by kernel_rfl) (by kernel_rfl) Try.underlying4
    (fun ds h => ?_)
    (ChangeSpec.witness6 (enc := enc) (C := Try.checked) false ⟨#[], #[.int .u32 0], []⟩ 8 (by kernel_rfl) (by kernel_rfl) (by kernel_rfl) (by kernel_rfl)) ?_
  · match ds, h with
    | [_], _ => rfl
  · intro W base args ds ps hval hA _ hz hsize
    obtain ⟨l⟩ := args
    obtain ⟨v0, l0, rfl, hs0⟩ := args_cons (n := 0) (by simpa [Try.params7] using hsize)
    obtain rfl := List.eq_nil_of_length_eq_zero hs0
    have hv0 := hval 0 41 v0 (by rw [Try.params7]; rfl) rfl
    clear hval hsize
    obtain ⟨a0, rfl, wf0⟩ := arg_int Try.underlying41 hv0
    exact (insnDecodes_walk a0 wf0 W).mono fun _ _ ⟨he, hg⟩ => ⟨he, hg.below⟩
theorem over : Rows.insnDecodesRow.holds Try.pinned (OpenSpec.ofChange Rows.insnDecodesSpec) :=
  OpenClaim.holds_of_wide 7 Try.f7 rfl rfl rfl rfl rfl rfl rfl ⟨rfl, rfl, rfl, rfl, rfl⟩ rfl rfl rfl rfl rfl (by kernel_rfl) Try.func7 (by kernel_rfl)
    (of_decide_eq_true (by kernel_rfl)) (by unfold Func.isWrapper; first | (rw [if_pos (by decide +kernel)]; kernel_rfl) | (rw [if_neg (by decide +kernel)]; exact ⟨rfl, rfl⟩))
    (fun os started H enc _ => lifted os started H enc)
end insnDecodes
theorem insnDecodes_holds : Rows.InsnDecodesSaid := insnDecodes.over
#print axioms insnDecodes_holds
end Go.Proofs.Ytjbgamifkgeodaa
