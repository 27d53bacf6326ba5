/- VcpuStops: one that is stopped never runs, wakes or waits again; its numbers stay. For every image. No condition. -/
import Derived.Test.YtilefidnjjbboaaVcpuStopsW
import Derived.Test.YtilefidnjjbboaaRow
import Derived.Test.YtilefidnjjbboaaRows
namespace Go.Proofs.Ytilefidnjjbboaa
open Go Go.RowKit
set_option linter.unusedSimpArgs false
set_option linter.unusedVariables false
namespace vcpuStops
open Go.ChangeShapes Go.WideShapes Go.ChangeAt Go.RowKit
theorem own : ownKnob Try.prog.godebug = none := by kernel_rfl
set_option maxRecDepth 100000 in
theorem lifted (os : Os) (started : os.Started) (H : Type) (enc : TypeId × Value → H) :
    ReturnsInHanded {} Try.checked os 6 .any (Rows.vcpuStopsSpec.pre6 enc Try.prog Try.f6 Rows.vcpuStopsRow.domain false) (Rows.vcpuStopsSpec.post enc Try.prog Try.f6 false true false false) := by
  refine law_lifted (C := Try.checked) started own (by kernel_rfl) Try.func6 rfl (by kernel_rfl) (by kernel_rfl) (by kernel_rfl) Try.underlying4
    (fun ds h => ?_)
    (ChangeSpec.witness6 (enc := enc) (C := Try.checked) false ⟨#[], #[.agg #[.int .u64 0, .int .u64 0, .int .u64 0, .int .u64 0, .int .u64 0, .int .u64 0, .int .u64 0, .int .u64 0, .int .u64 0, .int .u64 0, .int .u64 0, .int .u64 0, .int .u64 0, .int .u64 0, .int .u64 0, .int .u64 0, .int .u64 0, .int .u64 0, .int .u64 0, .int .u64 0, .int .u64 0, .int .u64 0, .int .u64 0, .int .u64 0, .int .u64 0, .int .u64 0, .int .u64 0, .int .u64 0, .int .u64 0, .int .u64 0], .bool false], []⟩ 8 (by kernel_rfl) (by kernel_rfl) (by kernel_rfl) (by kernel_rfl)) ?_
  · match ds, h with
    | [_, _], _ => rfl
  · intro W base args ds ps hval hA _ hz hsize
    obtain ⟨l⟩ := args
    obtain ⟨v0, l0, rfl, hs0⟩ := args_cons (n := 1) (by simpa [Try.params6] using hsize)
    obtain ⟨v1, l1, rfl, hs1⟩ := args_cons (n := 0) hs0
    obtain rfl := List.eq_nil_of_length_eq_zero hs1
    have hv0 := hval 0 56 v0 (by rw [Try.params6]; rfl) rfl
    have hv1 := hval 1 4 v1 (by rw [Try.params6]; rfl) rfl
    clear hval hsize
    obtain ⟨cs0, rfl, hc0_0⟩ := open_flat (ts := List.replicate 30 29 ++ ([])) (by kernel_rfl) (by kernel_rfl) (by kernel_rfl) hv0
    obtain ⟨x0_0, r0_0, rfl, len0_0, wf0_0, hc0_1⟩ := cellsOk_ints Try.underlying29 30 hc0_0
    obtain rfl := cellsOk_nil hc0_1
    obtain ⟨a1, rfl⟩ := arg_bool Try.underlying4 hv1
    exact (vcpuStops_walk x0_0 len0_0 wf0_0 a1 W).mono fun _ _ ⟨he, hg⟩ => ⟨he, hg.below⟩
theorem over : Rows.vcpuStopsRow.holds Try.pinned (OpenSpec.ofChange Rows.vcpuStopsSpec) :=
  OpenClaim.holds_of_wide 6 Try.f6 rfl rfl rfl rfl rfl rfl rfl ⟨rfl, rfl, rfl, rfl, rfl⟩ rfl rfl rfl rfl rfl (by kernel_rfl) Try.func6 (by kernel_rfl)
    (of_decide_eq_true (by kernel_rfl)) (by unfold Func.isWrapper; first | (rw [if_pos (by decide +kernel)]; kernel_rfl) | (rw [if_neg (by decide +kernel)]; exact ⟨rfl, rfl⟩))
    (fun os started H enc _ => lifted os started H enc)
end vcpuStops
theorem vcpuStops_holds : Rows.VcpuStopsSaid := vcpuStops.over
#print axioms vcpuStops_holds
end Go.Proofs.Ytilefidnjjbboaa
