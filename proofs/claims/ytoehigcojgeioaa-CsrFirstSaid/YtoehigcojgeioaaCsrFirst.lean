/- CsrFirst: of the lines that are set and enabled the first in the order device, soft, timer is due; in Kernel just if interrupts are on; in User always. For all numbers. No condition. -/
import Derived.Test.YtoehigcojgeioaaCsrFirstW
import Derived.Test.YtoehigcojgeioaaRow
import Derived.Test.YtoehigcojgeioaaRows
namespace Go.Proofs.Ytoehigcojgeioaa
open Go Go.RowKit
set_option linter.unusedSimpArgs false
set_option linter.unusedVariables false
namespace csrFirst
open Go.ChangeShapes Go.WideShapes Go.ChangeAt Go.RowKit
theorem own : ownKnob Try.prog.godebug = none := by kernel_rfl
set_option maxRecDepth 100000 in
theorem lifted (os : Os) (started : os.Started) (H : Type) (enc : TypeId × Value → H) :
    ReturnsInHanded {} Try.checked os 3 .any (Rows.csrFirstSpec.pre6 enc Try.prog Try.f3 Rows.csrFirstRow.domain false) (Rows.csrFirstSpec.post enc Try.prog Try.f3 false true false false) := by
  refine law_lifted (C := Try.checked) started own (by kernel_rfl) Try.func3 rfl (by kernel_rfl) (by kernel_rfl) (by kernel_rfl) Try.underlying4
    (fun ds h => ?_)
    (ChangeSpec.witness6 (enc := enc) (C := Try.checked) false ⟨#[], #[.int .i64 0, .int .i64 0, .bool false], []⟩ 8 (by kernel_rfl) (by kernel_rfl) (by kernel_rfl) (by kernel_rfl)) ?_
  · match ds, h with
    | [_, _, _], _ => rfl
  · intro W base args ds ps hval _ _ _ hsize
    obtain ⟨l⟩ := args
    obtain ⟨v0, l0, rfl, hs0⟩ := args_cons (n := 2) (by simpa [Try.params3] using hsize)
    obtain ⟨v1, l1, rfl, hs1⟩ := args_cons (n := 1) hs0
    obtain ⟨v2, l2, rfl, hs2⟩ := args_cons (n := 0) hs1
    obtain rfl := List.eq_nil_of_length_eq_zero hs2
    have hv0 := hval 0 3 v0 (by rw [Try.params3]; rfl) rfl
    have hv1 := hval 1 3 v1 (by rw [Try.params3]; rfl) rfl
    have hv2 := hval 2 4 v2 (by rw [Try.params3]; rfl) rfl
    clear hval hsize
    obtain ⟨a0, rfl, wf0⟩ := arg_int Try.underlying3 hv0
    obtain ⟨a1, rfl, wf1⟩ := arg_int Try.underlying3 hv1
    obtain ⟨a2, rfl⟩ := arg_bool Try.underlying4 hv2
    exact (csrFirst_walk a0 wf0 a1 wf1 a2 W).mono fun _ _ ⟨he, hg⟩ => ⟨he, hg.below⟩
theorem over : Rows.csrFirstRow.holds Try.pinned (OpenSpec.ofChange Rows.csrFirstSpec) :=
  OpenClaim.holds_of_wide 3 Try.f3 rfl rfl rfl rfl rfl rfl rfl ⟨rfl, rfl, rfl, rfl, rfl⟩ rfl rfl rfl rfl rfl (by kernel_rfl) Try.func3 (by kernel_rfl)
    (of_decide_eq_true (by kernel_rfl)) (by unfold Func.isWrapper; first | (rw [if_pos (by decide +kernel)]; kernel_rfl) | (rw [if_neg (by decide +kernel)]; exact ⟨rfl, rfl⟩))
    (fun os started H enc _ => lifted os started H enc)
end csrFirst
theorem csrFirst_holds : Rows.CsrFirstSaid := csrFirst.over
#print axioms csrFirst_holds
end Go.Proofs.Ytoehigcojgeioaa
