/- EntryAllows: what an entry allows is what its flags say, of its kind of asker alone; an entry of a table allows nothing. For every entry and either asker. No condition. -/
import Derived.Test.YtecjomldekhbjaaEntryAllowsW
import Derived.Test.YtecjomldekhbjaaRow
import Derived.Test.YtecjomldekhbjaaRows
namespace Go.Proofs.Ytecjomldekhbjaa
open Go Go.RowKit
set_option linter.unusedSimpArgs false
set_option linter.unusedVariables false
namespace entryAllows
open Go.ChangeShapes Go.WideShapes Go.ChangeAt Go.RowKit
theorem own : ownKnob Try.prog.godebug = none := by kernel_rfl
set_option maxRecDepth 100000 in
theorem lifted (os : Os) (started : os.Started) (H : Type) (enc : TypeId × Value → H) :
    ReturnsInHanded {} Try.checked os 3 .any (Rows.entryAllowsSpec.pre6 enc Try.prog Try.f3 Rows.entryAllowsRow.domain false) (Rows.entryAllowsSpec.post enc Try.prog Try.f3 false true false false) := by
  refine law_lifted (C := Try.checked) started own (by kernel_rfl) Try.func3 rfl (by kernel_rfl) (by kernel_rfl) (by kernel_rfl) Try.underlying4
    (fun ds h => ?_)
    (ChangeSpec.witness6 (enc := enc) (C := Try.checked) false ⟨#[], #[.agg #[.bool false, .bool false, .bool false, .bool false, .bool false, .bool false, .bool false, .int .i64 0], .bool false], []⟩ 8 (by kernel_rfl) (by kernel_rfl) (by kernel_rfl) (by kernel_rfl)) ?_
  · match ds, h with
    | [_, _], _ => rfl
  · intro W base args ds ps hval _ _ _ hsize
    obtain ⟨l⟩ := args
    obtain ⟨v0, l0, rfl, hs0⟩ := args_cons (n := 1) (by simpa [Try.params3] using hsize)
    obtain ⟨v1, l1, rfl, hs1⟩ := args_cons (n := 0) hs0
    obtain rfl := List.eq_nil_of_length_eq_zero hs1
    have hv0 := hval 0 23 v0 (by rw [Try.params3]; rfl) rfl
    have hv1 := hval 1 4 v1 (by rw [Try.params3]; rfl) rfl
    clear hval hsize
    obtain ⟨cs0, rfl, hc0_0⟩ := open_flat (ts := [4, 4, 4, 4, 4, 4, 4, 3]) (by kernel_rfl) (by kernel_rfl) (by kernel_rfl) hv0
    obtain ⟨c0_0, r0_0, rfl, h0_0, hc0_1⟩ := cellsOk_cons hc0_0; obtain ⟨x0_0, rfl⟩ := cell_bool Try.underlying4 h0_0
    obtain ⟨c0_1, r0_1, rfl, h0_1, hc0_2⟩ := cellsOk_cons hc0_1; obtain ⟨x0_1, rfl⟩ := cell_bool Try.underlying4 h0_1
    obtain ⟨c0_2, r0_2, rfl, h0_2, hc0_3⟩ := cellsOk_cons hc0_2; obtain ⟨x0_2, rfl⟩ := cell_bool Try.underlying4 h0_2
    obtain ⟨c0_3, r0_3, rfl, h0_3, hc0_4⟩ := cellsOk_cons hc0_3; obtain ⟨x0_3, rfl⟩ := cell_bool Try.underlying4 h0_3
    obtain ⟨c0_4, r0_4, rfl, h0_4, hc0_5⟩ := cellsOk_cons hc0_4; obtain ⟨x0_4, rfl⟩ := cell_bool Try.underlying4 h0_4
    obtain ⟨c0_5, r0_5, rfl, h0_5, hc0_6⟩ := cellsOk_cons hc0_5; obtain ⟨x0_5, rfl⟩ := cell_bool Try.underlying4 h0_5
    obtain ⟨c0_6, r0_6, rfl, h0_6, hc0_7⟩ := cellsOk_cons hc0_6; obtain ⟨x0_6, rfl⟩ := cell_bool Try.underlying4 h0_6
    obtain ⟨c0_7, r0_7, rfl, h0_7, hc0_8⟩ := cellsOk_cons hc0_7; obtain ⟨x0_7, rfl, wf0_7⟩ := cell_int Try.underlying3 h0_7
    obtain rfl := cellsOk_nil hc0_8
    obtain ⟨a1, rfl⟩ := arg_bool Try.underlying4 hv1
    exact (entryAllows_walk x0_0 x0_1 x0_2 x0_3 x0_4 x0_5 x0_6 x0_7 wf0_7 a1 W).mono fun _ _ ⟨he, hg⟩ => ⟨he, hg.below⟩
theorem over : Rows.entryAllowsRow.holds Try.pinned (OpenSpec.ofChange Rows.entryAllowsSpec) :=
  OpenClaim.holds_of_wide 3 Try.f3 rfl rfl rfl rfl rfl rfl rfl ⟨rfl, rfl, rfl, rfl, rfl⟩ rfl rfl rfl rfl rfl (by kernel_rfl) Try.func3 (by kernel_rfl)
    (of_decide_eq_true (by kernel_rfl)) (by unfold Func.isWrapper; first | (rw [if_pos (by decide +kernel)]; kernel_rfl) | (rw [if_neg (by decide +kernel)]; exact ⟨rfl, rfl⟩))
    (fun os started H enc _ => lifted os started H enc)
end entryAllows
theorem entryAllows_holds : Rows.EntryAllowsSaid := entryAllows.over
#print axioms entryAllows_holds
end Go.Proofs.Ytecjomldekhbjaa
