/- VcpuImages: what is loaded is the image, on a core and off it, and comes through the core unchanged. For every image and core. No condition. -/
import Derived.Test.YtilefidnjjbboaaVcpuImagesW
import Derived.Test.YtilefidnjjbboaaRow
import Derived.Test.YtilefidnjjbboaaRows
namespace Go.Proofs.Ytilefidnjjbboaa
open Go Go.RowKit
set_option linter.unusedSimpArgs false
set_option linter.unusedVariables false
namespace vcpuImages
open Go.ChangeShapes Go.WideShapes Go.ChangeAt Go.RowKit
theorem own : ownKnob Try.prog.godebug = none := by kernel_rfl
set_option maxRecDepth 100000 in
theorem lifted (os : Os) (started : os.Started) (H : Type) (enc : TypeId × Value → H) :
    ReturnsInHanded {} Try.checked os 5 .any (Rows.vcpuImagesSpec.pre6 enc Try.prog Try.f5 Rows.vcpuImagesRow.domain false) (Rows.vcpuImagesSpec.post enc Try.prog Try.f5 false true false false) := by
  refine law_lifted (C := Try.checked) started own (by kernel_rfl) Try.func5 rfl (by kernel_rfl) (by kernel_rfl) (by kernel_rfl) Try.underlying4
    (fun ds h => ?_)
    (ChangeSpec.witness6 (enc := enc) (C := Try.checked) false ⟨#[], #[.agg #[.int .u64 0, .int .u64 0, .int .u64 0, .int .u64 0, .int .u64 0, .int .u64 0, .int .u64 0, .int .u64 0, .int .u64 0, .int .u64 0, .int .u64 0, .int .u64 0, .int .u64 0, .int .u64 0, .int .u64 0, .int .u64 0, .int .u64 0, .int .u64 0, .int .u64 0, .int .u64 0, .int .u64 0, .int .u64 0, .int .u64 0, .int .u64 0, .int .u64 0, .int .u64 0, .int .u64 0, .int .u64 0, .int .u64 0, .int .u64 0], .int .i64 0], []⟩ 8 (by kernel_rfl) (by kernel_rfl) (by kernel_rfl) (by kernel_rfl)) ?_
  · match ds, h with
    | [_, _], _ => rfl
  · intro W base args ds ps hval hA _ hz hsize
    obtain ⟨l⟩ := args
    obtain ⟨v0, l0, rfl, hs0⟩ := args_cons (n := 1) (by simpa [Try.params5] using hsize)
    obtain ⟨v1, l1, rfl, hs1⟩ := args_cons (n := 0) hs0
    obtain rfl := List.eq_nil_of_length_eq_zero hs1
    have hv0 := hval 0 56 v0 (by rw [Try.params5]; rfl) rfl
    have hv1 := hval 1 3 v1 (by rw [Try.params5]; rfl) rfl
    clear hval hsize
    obtain ⟨cs0, rfl, hc0_0⟩ := open_flat (ts := List.replicate 30 29 ++ ([])) (by kernel_rfl) (by kernel_rfl) (by kernel_rfl) hv0
    obtain ⟨x0_0, r0_0, rfl, len0_0, wf0_0, hc0_1⟩ := cellsOk_ints Try.underlying29 30 hc0_0
    obtain rfl := cellsOk_nil hc0_1
    obtain ⟨a1, rfl, wf1⟩ := arg_int Try.underlying3 hv1
    exact (vcpuImages_walk x0_0 len0_0 wf0_0 a1 wf1 W).mono fun _ _ ⟨he, hg⟩ => ⟨he, hg.below⟩
theorem over : Rows.vcpuImagesRow.holds Try.pinned (OpenSpec.ofChange Rows.vcpuImagesSpec) :=
  OpenClaim.holds_of_wide 5 Try.f5 rfl rfl rfl rfl rfl rfl rfl ⟨rfl, rfl, rfl, rfl, rfl⟩ rfl rfl rfl rfl rfl (by kernel_rfl) Try.func5 (by kernel_rfl)
    (of_decide_eq_true (by kernel_rfl)) (by unfold Func.isWrapper; first | (rw [if_pos (by decide +kernel)]; kernel_rfl) | (rw [if_neg (by decide +kernel)]; exact ⟨rfl, rfl⟩))
    (fun os started H enc _ => lifted os started H enc)
end vcpuImages
theorem vcpuImages_holds : Rows.VcpuImagesSaid := vcpuImages.over
#print axioms vcpuImages_holds
end Go.Proofs.Ytilefidnjjbboaa
