/- FramesNobody: what no call made has no frames. For every act. No condition. -/
import Derived.Test.YtbiadhgkpggdeaaFramesNobodyW
import Derived.Test.YtbiadhgkpggdeaaRow
import Derived.Test.YtbiadhgkpggdeaaRows
namespace Go.Proofs.Ytbiadhgkpggdeaa
open Go Go.RowKit
set_option linter.unusedSimpArgs false
set_option linter.unusedVariables false
namespace framesNobody
open Go.ChangeShapes Go.WideShapes Go.ChangeAt Go.RowKit
theorem own : ownKnob Try.prog.godebug = none := by kernel_rfl
set_option maxRecDepth 100000 in
theorem lifted (os : Os) (started : os.Started) (H : Type) (enc : TypeId × Value → H) :
    ReturnsInHanded {} Try.checked os 4 .any (Rows.framesNobodySpec.pre6 enc Try.prog Try.f4 Rows.framesNobodyRow.domain false) (Rows.framesNobodySpec.post enc Try.prog Try.f4 false true false false) := by
  refine law_lifted (C := Try.checked) started own (by kernel_rfl) Try.func4 rfl (by kernel_rfl) (by kernel_rfl) (by kernel_rfl) Try.underlying4
    (fun ds h => ?_)
    (ChangeSpec.witness6 (enc := enc) (C := Try.checked) false ⟨#[], #[.agg #[.int .i64 0, .int .i64 0, .int .i64 0, .int .i64 0]], []⟩ 8 (by kernel_rfl) (by kernel_rfl) (by kernel_rfl) (by kernel_rfl)) ?_
  · match ds, h with
    | [_], _ => rfl
  · intro W base args ds ps hval hA _ hz hsize
    obtain ⟨l⟩ := args
    obtain ⟨v0, l0, rfl, hs0⟩ := args_cons (n := 0) (by simpa [Try.params4] using hsize)
    obtain rfl := List.eq_nil_of_length_eq_zero hs0
    have hv0 := hval 0 29 v0 (by rw [Try.params4]; rfl) rfl
    clear hval hsize
    obtain ⟨cs0, rfl, hc0_0⟩ := open_flat (ts := [3, 3, 3, 3]) (by kernel_rfl) (by kernel_rfl) (by kernel_rfl) hv0
    obtain ⟨c0_0, r0_0, rfl, h0_0, hc0_1⟩ := cellsOk_cons hc0_0; obtain ⟨x0_0, rfl, wf0_0⟩ := cell_int Try.underlying3 h0_0
    obtain ⟨c0_1, r0_1, rfl, h0_1, hc0_2⟩ := cellsOk_cons hc0_1; obtain ⟨x0_1, rfl, wf0_1⟩ := cell_int Try.underlying3 h0_1
    obtain ⟨c0_2, r0_2, rfl, h0_2, hc0_3⟩ := cellsOk_cons hc0_2; obtain ⟨x0_2, rfl, wf0_2⟩ := cell_int Try.underlying3 h0_2
    obtain ⟨c0_3, r0_3, rfl, h0_3, hc0_4⟩ := cellsOk_cons hc0_3; obtain ⟨x0_3, rfl, wf0_3⟩ := cell_int Try.underlying3 h0_3
    obtain rfl := cellsOk_nil hc0_4
    exact (framesNobody_walk x0_0 wf0_0 x0_1 wf0_1 x0_2 wf0_2 x0_3 wf0_3 W).mono fun _ _ ⟨he, hg⟩ => ⟨he, hg.below⟩
theorem over : Rows.framesNobodyRow.holds Try.pinned (OpenSpec.ofChange Rows.framesNobodySpec) :=
  OpenClaim.holds_of_wide 4 Try.f4 rfl rfl rfl rfl rfl rfl rfl ⟨rfl, rfl, rfl, rfl, rfl⟩ rfl rfl rfl rfl rfl (by kernel_rfl) Try.func4 (by kernel_rfl)
    (of_decide_eq_true (by kernel_rfl)) (by unfold Func.isWrapper; first | (rw [if_pos (by decide +kernel)]; kernel_rfl) | (rw [if_neg (by decide +kernel)]; exact ⟨rfl, rfl⟩))
    (fun os started H enc _ => lifted os started H enc)
end framesNobody
theorem framesNobody_holds : Rows.FramesNobodySaid := framesNobody.over
#print axioms framesNobody_holds
end Go.Proofs.Ytbiadhgkpggdeaa
