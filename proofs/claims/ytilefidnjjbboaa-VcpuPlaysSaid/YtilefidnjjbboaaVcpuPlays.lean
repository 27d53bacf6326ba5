/- VcpuPlays: two virtual processors under any calls go through the states of the reference, and keep their registers. For all numbers and acts. No condition. -/
import Derived.Test.YtilefidnjjbboaaVcpuPlaysW
import Derived.Test.YtilefidnjjbboaaRow
import Derived.Test.YtilefidnjjbboaaRows
import Derived.Test.YtilefidnjjbboaaSlice2
namespace Go.Proofs.Ytilefidnjjbboaa
open Go Go.RowKit
set_option linter.unusedSimpArgs false
set_option linter.unusedVariables false
namespace vcpuPlays
open Go.ChangeShapes Go.WideShapes Go.ChangeAt Go.RowKit
theorem own : ownKnob Try.prog.godebug = none := by kernel_rfl
set_option maxRecDepth 100000 in
theorem lifted (os : Os) (started : os.Started) (H : Type) (enc : TypeId × Value → H) :
    ReturnsInHanded {} Try.checked os 4 .any (Rows.vcpuPlaysSpec.pre6 enc Try.prog Try.f4 Rows.vcpuPlaysRow.domain false) (Rows.vcpuPlaysSpec.post enc Try.prog Try.f4 false true false false) := by
  refine law_lifted (C := Try.checked) started own (by kernel_rfl) Try.func4 rfl (by kernel_rfl) (by kernel_rfl) (by kernel_rfl) Try.underlying4
    (fun ds h => ?_)
    (ChangeSpec.witness6 (enc := enc) (C := Try.checked) false ⟨#[], #[.int .i64 0, .int .i64 0, .slice none 0 0], []⟩ 8 (by kernel_rfl) (by kernel_rfl) (by kernel_rfl) (by kernel_rfl)) ?_
  · match ds, h with
    | [_, _, _], _ => rfl
  · intro W base args ds ps hval hA _ hz hsize
    obtain ⟨l⟩ := args
    obtain ⟨v0, l0, rfl, hs0⟩ := args_cons (n := 2) (by simpa [Try.params4] using hsize)
    obtain ⟨v1, l1, rfl, hs1⟩ := args_cons (n := 1) hs0
    obtain ⟨v2, l2, rfl, hs2⟩ := args_cons (n := 0) hs1
    obtain rfl := List.eq_nil_of_length_eq_zero hs2
    have hv0 := hval 0 3 v0 (by rw [Try.params4]; rfl) rfl
    have hv1 := hval 1 3 v1 (by rw [Try.params4]; rfl) rfl
    have hv2 := hval 2 33 v2 (by rw [Try.params4]; rfl) rfl
    clear hval hsize
    rw [Try.params4] at hA hz
    obtain ⟨d0, ds0, p0, q0, rfl, ht0, hA⟩ := trodAll_cons hA
    obtain ⟨d1, ds1, p1, q1, rfl, ht1, hA⟩ := trodAll_cons hA
    obtain ⟨d2, ds2, p2, q2, rfl, ht2, hA⟩ := trodAll_cons hA
    obtain ⟨a0, rfl, wf0⟩ := arg_int Try.underlying3 hv0
    obtain ⟨a1, rfl, wf1⟩ := arg_int Try.underlying3 hv1
    obtain ⟨A2, n2, c2, X2, rfl, hnc2, hcm2, hsz2, hX2, hA2⟩ := slice_arg (ts := [3, 3, 3, 29, 29, 29, 29, 29, 29, 29, 29, 29, 29, 29, 29, 29, 29, 29, 29, 29, 3]) 8 Try.underlying33 (by kernel_rfl) (by kernel_rfl) (by decide) (arg_one Try.underlying33 hv2) ht2 (Sized.of_each hz (j := 2) rfl rfl)
    rw [show Try.prog.bytesOf 45 = 168 by kernel_rfl] at hsz2
    exact (vcpuPlays_walk W a0 wf0 a1 wf1 A2 n2 c2 X2 hnc2 hsz2 hX2 hA2).mono fun _ _ ⟨he, hg⟩ => ⟨he, hg.below⟩
theorem over : Rows.vcpuPlaysRow.holds Try.pinned (OpenSpec.ofChange Rows.vcpuPlaysSpec) :=
  OpenClaim.holds_of_wide 4 Try.f4 rfl rfl rfl rfl rfl rfl rfl ⟨rfl, rfl, rfl, rfl, rfl⟩ rfl rfl rfl rfl rfl (by kernel_rfl) Try.func4 (by kernel_rfl)
    (of_decide_eq_true (by kernel_rfl)) (by unfold Func.isWrapper; first | (rw [if_pos (by decide +kernel)]; kernel_rfl) | (rw [if_neg (by decide +kernel)]; exact ⟨rfl, rfl⟩))
    (fun os started H enc _ => lifted os started H enc)
end vcpuPlays
theorem vcpuPlays_holds : Rows.VcpuPlaysSaid := vcpuPlays.over
#print axioms vcpuPlays_holds
end Go.Proofs.Ytilefidnjjbboaa
