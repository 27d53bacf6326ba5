/- VcpuNobody: virtual processors that no call made, and what has no machine, do nothing. For every act. No condition. -/
import Derived.Test.YtilefidnjjbboaaVcpuNobodyW
import Derived.Test.YtilefidnjjbboaaRow
import Derived.Test.YtilefidnjjbboaaRows
namespace Go.Proofs.Ytilefidnjjbboaa
open Go Go.RowKit
set_option linter.unusedSimpArgs false
set_option linter.unusedVariables false
namespace vcpuNobody
open Go.ChangeShapes Go.WideShapes Go.ChangeAt Go.RowKit
theorem own : ownKnob Try.prog.godebug = none := by kernel_rfl
set_option maxRecDepth 100000 in
theorem lifted (os : Os) (started : os.Started) (H : Type) (enc : TypeId × Value → H) :
    ReturnsInHanded {} Try.checked os 7 .any (Rows.vcpuNobodySpec.pre6 enc Try.prog Try.f7 Rows.vcpuNobodyRow.domain false) (Rows.vcpuNobodySpec.post enc Try.prog Try.f7 false true false false) := by
  refine law_lifted (C := Try.checked) started own (by kernel_rfl) Try.func7 rfl (by kernel_rfl) (by kernel_rfl) (by kernel_rfl) Try.underlying4
    (fun ds h => ?_)
    (ChangeSpec.witness6 (enc := enc) (C := Try.checked) false ⟨#[], #[.agg #[.int .i64 0, .int .i64 0, .int .i64 0, .int .u64 0, .int .u64 0, .int .u64 0, .int .u64 0, .int .u64 0, .int .u64 0, .int .u64 0, .int .u64 0, .int .u64 0, .int .u64 0, .int .u64 0, .int .u64 0, .int .u64 0, .int .u64 0, .int .u64 0, .int .u64 0, .int .u64 0, .int .i64 0]], []⟩ 8 (by kernel_rfl) (by kernel_rfl) (by kernel_rfl) (by kernel_rfl)) ?_
  · match ds, h with
    | [_], _ => rfl
  · intro W base args ds ps hval hA _ hz hsize
    obtain ⟨l⟩ := args
    obtain ⟨v0, l0, rfl, hs0⟩ := args_cons (n := 0) (by simpa [Try.params7] using hsize)
    obtain rfl := List.eq_nil_of_length_eq_zero hs0
    have hv0 := hval 0 45 v0 (by rw [Try.params7]; rfl) rfl
    clear hval hsize
    obtain ⟨cs0, rfl, hc0_0⟩ := open_flat (ts := [3, 3, 3] ++ (List.replicate 16 29 ++ ([29, 3]))) (by kernel_rfl) (by kernel_rfl) (by kernel_rfl) hv0
    obtain ⟨c0_0, r0_0, rfl, h0_0, hc0_1⟩ := cellsOk_cons hc0_0; obtain ⟨x0_0, rfl, wf0_0⟩ := cell_int Try.underlying3 h0_0
    obtain ⟨c0_1, r0_1, rfl, h0_1, hc0_2⟩ := cellsOk_cons hc0_1; obtain ⟨x0_1, rfl, wf0_1⟩ := cell_int Try.underlying3 h0_1
    obtain ⟨c0_2, r0_2, rfl, h0_2, hc0_3⟩ := cellsOk_cons hc0_2; obtain ⟨x0_2, rfl, wf0_2⟩ := cell_int Try.underlying3 h0_2
    obtain ⟨x0_3, r0_3, rfl, len0_3, wf0_3, hc0_4⟩ := cellsOk_ints Try.underlying29 16 hc0_3
    obtain ⟨c0_4, r0_4, rfl, h0_4, hc0_5⟩ := cellsOk_cons hc0_4; obtain ⟨x0_4, rfl, wf0_4⟩ := cell_int Try.underlying29 h0_4
    obtain ⟨c0_5, r0_5, rfl, h0_5, hc0_6⟩ := cellsOk_cons hc0_5; obtain ⟨x0_5, rfl, wf0_5⟩ := cell_int Try.underlying3 h0_5
    obtain rfl := cellsOk_nil hc0_6
    exact (vcpuNobody_walk x0_0 wf0_0 x0_1 wf0_1 x0_2 wf0_2 x0_3 len0_3 wf0_3 x0_4 wf0_4 x0_5 wf0_5 W).mono fun _ _ ⟨he, hg⟩ => ⟨he, hg.below⟩
theorem over : Rows.vcpuNobodyRow.holds Try.pinned (OpenSpec.ofChange Rows.vcpuNobodySpec) :=
  OpenClaim.holds_of_wide 7 Try.f7 rfl rfl rfl rfl rfl rfl rfl ⟨rfl, rfl, rfl, rfl, rfl⟩ rfl rfl rfl rfl rfl (by kernel_rfl) Try.func7 (by kernel_rfl)
    (of_decide_eq_true (by kernel_rfl)) (by unfold Func.isWrapper; first | (rw [if_pos (by decide +kernel)]; kernel_rfl) | (rw [if_neg (by decide +kernel)]; exact ⟨rfl, rfl⟩))
    (fun os started H enc _ => lifted os started H enc)
end vcpuNobody
theorem vcpuNobody_holds : Rows.VcpuNobodySaid := vcpuNobody.over
#print axioms vcpuNobody_holds
end Go.Proofs.Ytilefidnjjbboaa
