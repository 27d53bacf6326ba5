/- InsnApart: two instructions that are not alike have not one word; an instruction that is not valid has none. For all instructions. No condition. -/
import Derived.Test.YtjbgamifkgeodaaInsnApartW
import Derived.Test.YtjbgamifkgeodaaRow
import Derived.Test.YtjbgamifkgeodaaRows
namespace Go.Proofs.Ytjbgamifkgeodaa
open Go Go.RowKit
set_option linter.unusedSimpArgs false
set_option linter.unusedVariables false
namespace insnApart
open Go.ChangeShapes Go.WideShapes Go.ChangeAt Go.RowKit
theorem own : ownKnob Try.prog.godebug = none := by kernel_rfl
set_option maxRecDepth 100000 in
theorem lifted (os : Os) (started : os.Started) (H : Type) (enc : TypeId × Value → H) :
    ReturnsInHanded {} Try.checked os 6 .any (Rows.insnApartSpec.pre6 enc Try.prog Try.f6 Rows.insnApartRow.domain false) (Rows.insnApartSpec.post enc Try.prog Try.f6 false true false false) := by
  refine law_lifted (C := Try.checked) started own (by kernel_rfl) Try.func6 rfl (by kernel_rfl) (by kernel_rfl) (by kernel_rfl) Try.underlying4
    (fun ds h => ?_)
    (ChangeSpec.witness6 (enc := enc) (C := Try.checked) false ⟨#[], #[.agg #[.int .i64 0, .int .i64 0, .int .i64 0, .int .i64 0, .int .i64 0], .agg #[.int .i64 0, .int .i64 0, .int .i64 0, .int .i64 0, .int .i64 0]], []⟩ 8 (by kernel_rfl) (by kernel_rfl) (by kernel_rfl) (by kernel_rfl)) ?_
  · match ds, h with
    | [_, _], _ => rfl
  · intro W base args ds ps hval hA _ hz hsize
    obtain ⟨l⟩ := args
    obtain ⟨v0, l0, rfl, hs0⟩ := args_cons (n := 1) (by simpa [Try.params6] using hsize)
    obtain ⟨v1, l1, rfl, hs1⟩ := args_cons (n := 0) hs0
    obtain rfl := List.eq_nil_of_length_eq_zero hs1
    have hv0 := hval 0 40 v0 (by rw [Try.params6]; rfl) rfl
    have hv1 := hval 1 40 v1 (by rw [Try.params6]; rfl) rfl
    clear hval hsize
    obtain ⟨cs0, rfl, hc0_0⟩ := open_flat (ts := [3, 3, 3, 3, 3]) (by kernel_rfl) (by kernel_rfl) (by kernel_rfl) hv0
    obtain ⟨c0_0, r0_0, rfl, h0_0, hc0_1⟩ := cellsOk_cons hc0_0; obtain ⟨x0_0, rfl, wf0_0⟩ := cell_int Try.underlying3 h0_0
    obtain ⟨c0_1, r0_1, rfl, h0_1, hc0_2⟩ := cellsOk_cons hc0_1; obtain ⟨x0_1, rfl, wf0_1⟩ := cell_int Try.underlying3 h0_1
    obtain ⟨c0_2, r0_2, rfl, h0_2, hc0_3⟩ := cellsOk_cons hc0_2; obtain ⟨x0_2, rfl, wf0_2⟩ := cell_int Try.underlying3 h0_2
    obtain ⟨c0_3, r0_3, rfl, h0_3, hc0_4⟩ := cellsOk_cons hc0_3; obtain ⟨x0_3, rfl, wf0_3⟩ := cell_int Try.underlying3 h0_3
    obtain ⟨c0_4, r0_4, rfl, h0_4, hc0_5⟩ := cellsOk_cons hc0_4; obtain ⟨x0_4, rfl, wf0_4⟩ := cell_int Try.underlying3 h0_4
    obtain rfl := cellsOk_nil hc0_5
    obtain ⟨cs1, rfl, hc1_0⟩ := open_flat (ts := [3, 3, 3, 3, 3]) (by kernel_rfl) (by kernel_rfl) (by kernel_rfl) hv1
    obtain ⟨c1_0, r1_0, rfl, h1_0, hc1_1⟩ := cellsOk_cons hc1_0; obtain ⟨x1_0, rfl, wf1_0⟩ := cell_int Try.underlying3 h1_0
    obtain ⟨c1_1, r1_1, rfl, h1_1, hc1_2⟩ := cellsOk_cons hc1_1; obtain ⟨x1_1, rfl, wf1_1⟩ := cell_int Try.underlying3 h1_1
    obtain ⟨c1_2, r1_2, rfl, h1_2, hc1_3⟩ := cellsOk_cons hc1_2; obtain ⟨x1_2, rfl, wf1_2⟩ := cell_int Try.underlying3 h1_2
    obtain ⟨c1_3, r1_3, rfl, h1_3, hc1_4⟩ := cellsOk_cons hc1_3; obtain ⟨x1_3, rfl, wf1_3⟩ := cell_int Try.underlying3 h1_3
    obtain ⟨c1_4, r1_4, rfl, h1_4, hc1_5⟩ := cellsOk_cons hc1_4; obtain ⟨x1_4, rfl, wf1_4⟩ := cell_int Try.underlying3 h1_4
    obtain rfl := cellsOk_nil hc1_5
    exact (insnApart_walk x0_0 wf0_0 x0_1 wf0_1 x0_2 wf0_2 x0_3 wf0_3 x0_4 wf0_4 x1_0 wf1_0 x1_1 wf1_1 x1_2 wf1_2 x1_3 wf1_3 x1_4 wf1_4 W).mono fun _ _ ⟨he, hg⟩ => ⟨he, hg.below⟩
theorem over : Rows.insnApartRow.holds Try.pinned (OpenSpec.ofChange Rows.insnApartSpec) :=
  OpenClaim.holds_of_wide 6 Try.f6 rfl rfl rfl rfl rfl rfl rfl ⟨rfl, rfl, rfl, rfl, rfl⟩ rfl rfl rfl rfl rfl (by kernel_rfl) Try.func6 (by kernel_rfl)
    (of_decide_eq_true (by kernel_rfl)) (by unfold Func.isWrapper; first | (rw [if_pos (by decide +kernel)]; kernel_rfl) | (rw [if_neg (by decide +kernel)]; exact ⟨rfl, rfl⟩))
    (fun os started H enc _ => lifted os started H enc)
end insnApart
theorem insnApart_holds : Rows.InsnApartSaid := insnApart.over
#print axioms insnApart_holds
end Go.Proofs.Ytjbgamifkgeodaa
