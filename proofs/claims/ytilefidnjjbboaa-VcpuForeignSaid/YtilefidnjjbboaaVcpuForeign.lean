/- VcpuForeign: a core that another one has is not left. For every core. No condition. -/
import Derived.Test.YtilefidnjjbboaaVcpuForeignW
import Derived.Test.YtilefidnjjbboaaRow
import Derived.Test.YtilefidnjjbboaaRows
namespace Go.Proofs.Ytilefidnjjbboaa
open Go Go.RowKit
set_option linter.unusedSimpArgs false
set_option linter.unusedVariables false
namespace vcpuForeign
open Go.ChangeShapes Go.WideShapes Go.ChangeAt Go.RowKit
theorem own : ownKnob Try.prog.godebug = none := by kernel_rfl
set_option maxRecDepth 100000 in
theorem lifted (os : Os) (started : os.Started) (H : Type) (enc : TypeId × Value → H) :
    ReturnsInHanded {} Try.checked os 3 .any (Rows.vcpuForeignSpec.pre6 enc Try.prog Try.f3 Rows.vcpuForeignRow.domain false) (Rows.vcpuForeignSpec.post enc Try.prog Try.f3 false true false false) := by
  refine law_lifted (C := Try.checked) started own (by kernel_rfl) Try.func3 rfl (by kernel_rfl) (by kernel_rfl) (by kernel_rfl) Try.underlying4
    (fun ds h => ?_)
    (ChangeSpec.witness6 (enc := enc) (C := Try.checked) false ⟨#[], #[.int .i64 0], []⟩ 8 (by kernel_rfl) (by kernel_rfl) (by kernel_rfl) (by kernel_rfl)) ?_
  · match ds, h with
    | [_], _ => rfl
  · intro W base args ds ps hval hA _ hz hsize
    obtain ⟨l⟩ := args
    obtain ⟨v0, l0, rfl, hs0⟩ := args_cons (n := 0) (by simpa [Try.params3] using hsize)
    obtain rfl := List.eq_nil_of_length_eq_zero hs0
    have hv0 := hval 0 3 v0 (by rw [Try.params3]; rfl) rfl
    clear hval hsize
    obtain ⟨a0, rfl, wf0⟩ := arg_int Try.underlying3 hv0
    exact (vcpuForeign_walk a0 wf0 W).mono fun _ _ ⟨he, hg⟩ => ⟨he, hg.below⟩
theorem over : Rows.vcpuForeignRow.holds Try.pinned (OpenSpec.ofChange Rows.vcpuForeignSpec) :=
  OpenClaim.holds_of_wide 3 Try.f3 rfl rfl rfl rfl rfl rfl rfl ⟨rfl, rfl, rfl, rfl, rfl⟩ rfl rfl rfl rfl rfl (by kernel_rfl) Try.func3 (by kernel_rfl)
    (of_decide_eq_true (by kernel_rfl)) (by unfold Func.isWrapper; first | (rw [if_pos (by decide +kernel)]; kernel_rfl) | (rw [if_neg (by decide +kernel)]; exact ⟨rfl, rfl⟩))
    (fun os started H enc _ => lifted os started H enc)
end vcpuForeign
theorem vcpuForeign_holds : Rows.VcpuForeignSaid := vcpuForeign.over
#print axioms vcpuForeign_holds
end Go.Proofs.Ytilefidnjjbboaa
