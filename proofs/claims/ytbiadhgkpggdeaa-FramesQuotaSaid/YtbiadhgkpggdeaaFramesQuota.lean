/- FramesQuota: an owner never has more frames than it may, whoever gives them; a quota that is lowered takes nothing away. For all numbers and acts. No condition. -/
import Derived.Test.YtbiadhgkpggdeaaFramesQuotaW
import Derived.Test.YtbiadhgkpggdeaaRow
import Derived.Test.YtbiadhgkpggdeaaRows
import Derived.Test.YtbiadhgkpggdeaaSlice2
namespace Go.Proofs.Ytbiadhgkpggdeaa
open Go Go.RowKit
set_option linter.unusedSimpArgs false
set_option linter.unusedVariables false
namespace framesQuota
open Go.ChangeShapes Go.WideShapes Go.ChangeAt Go.RowKit
theorem own : ownKnob Try.prog.godebug = none := by kernel_rfl
set_option maxRecDepth 100000 in
theorem lifted (os : Os) (started : os.Started) (H : Type) (enc : TypeId × Value → H) :
    ReturnsInHanded {} Try.checked os 3 .any (Rows.framesQuotaSpec.pre6 enc Try.prog Try.f3 Rows.framesQuotaRow.domain false) (Rows.framesQuotaSpec.post enc Try.prog Try.f3 false true false false) := by
  refine law_lifted (C := Try.checked) started own (by kernel_rfl) Try.func3 rfl (by kernel_rfl) (by kernel_rfl) (by kernel_rfl) Try.underlying4
    (fun ds h => ?_)
    (ChangeSpec.witness6 (enc := enc) (C := Try.checked) false ⟨#[], #[.int .i64 0, .slice none 0 0], []⟩ 8 (by kernel_rfl) (by kernel_rfl) (by kernel_rfl) (by kernel_rfl)) ?_
  · match ds, h with
    | [_, _], _ => rfl
  · intro W base args ds ps hval hA _ hz hsize
    obtain ⟨l⟩ := args
    obtain ⟨v0, l0, rfl, hs0⟩ := args_cons (n := 1) (by simpa [Try.params3] using hsize)
    obtain ⟨v1, l1, rfl, hs1⟩ := args_cons (n := 0) hs0
    obtain rfl := List.eq_nil_of_length_eq_zero hs1
    have hv0 := hval 0 3 v0 (by rw [Try.params3]; rfl) rfl
    have hv1 := hval 1 22 v1 (by rw [Try.params3]; rfl) rfl
    clear hval hsize
    rw [Try.params3] at hA hz
    obtain ⟨d0, ds0, p0, q0, rfl, ht0, hA⟩ := trodAll_cons hA
    obtain ⟨d1, ds1, p1, q1, rfl, ht1, hA⟩ := trodAll_cons hA
    obtain ⟨a0, rfl, wf0⟩ := arg_int Try.underlying3 hv0
    obtain ⟨A1, n1, c1, X1, rfl, hnc1, hcm1, hsz1, hX1, hA1⟩ := slice_arg (ts := [3, 3, 3, 3]) 8 Try.underlying22 (by kernel_rfl) (by kernel_rfl) (by decide) (arg_one Try.underlying22 hv1) ht1 (Sized.of_each hz (j := 1) rfl rfl)
    rw [show Try.prog.bytesOf 29 = 32 by kernel_rfl] at hsz1
    exact (framesQuota_walk W a0 wf0 A1 n1 c1 X1 hnc1 hsz1 hX1 hA1).mono fun _ _ ⟨he, hg⟩ => ⟨he, hg.below⟩
theorem over : Rows.framesQuotaRow.holds Try.pinned (OpenSpec.ofChange Rows.framesQuotaSpec) :=
  OpenClaim.holds_of_wide 3 Try.f3 rfl rfl rfl rfl rfl rfl rfl ⟨rfl, rfl, rfl, rfl, rfl⟩ rfl rfl rfl rfl rfl (by kernel_rfl) Try.func3 (by kernel_rfl)
    (of_decide_eq_true (by kernel_rfl)) (by unfold Func.isWrapper; first | (rw [if_pos (by decide +kernel)]; kernel_rfl) | (rw [if_neg (by decide +kernel)]; exact ⟨rfl, rfl⟩))
    (fun os started H enc _ => lifted os started H enc)
end framesQuota
theorem framesQuota_holds : Rows.FramesQuotaSaid := framesQuota.over
#print axioms framesQuota_holds
end Go.Proofs.Ytbiadhgkpggdeaa
