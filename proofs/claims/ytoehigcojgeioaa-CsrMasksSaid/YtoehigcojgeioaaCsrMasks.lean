/- CsrMasks: what a write leaves of a register are its own bits alone; nothing but that register changes. For all numbers. No condition. -/
import Derived.Test.YtoehigcojgeioaaCsrMasksW
import Derived.Test.YtoehigcojgeioaaRow
import Derived.Test.YtoehigcojgeioaaRows
namespace Go.Proofs.Ytoehigcojgeioaa
open Go Go.RowKit
set_option linter.unusedSimpArgs false
set_option linter.unusedVariables false
namespace csrMasks
open Go.ChangeShapes Go.WideShapes Go.ChangeAt Go.RowKit
theorem own : ownKnob Try.prog.godebug = none := by kernel_rfl
set_option maxRecDepth 100000 in
theorem lifted (os : Os) (started : os.Started) (H : Type) (enc : TypeId × Value → H) :
    ReturnsInHanded {} Try.checked os 4 .any (Rows.csrMasksSpec.pre6 enc Try.prog Try.f4 Rows.csrMasksRow.domain false) (Rows.csrMasksSpec.post enc Try.prog Try.f4 false true false false) := by
  refine law_lifted (C := Try.checked) started own (by kernel_rfl) Try.func4 rfl (by kernel_rfl) (by kernel_rfl) (by kernel_rfl) Try.underlying4
    (fun ds h => ?_)
    (ChangeSpec.witness6 (enc := enc) (C := Try.checked) false ⟨#[], #[.int .i64 0, .int .u64 0, .agg #[.int .u64 0, .int .u64 0, .int .u64 0, .int .u64 0, .int .u64 0, .int .u64 0, .int .u64 0, .int .u64 0, .int .u64 0, .int .u64 0, .int .u64 0, .int .u64 0]], []⟩ 8 (by kernel_rfl) (by kernel_rfl) (by kernel_rfl) (by kernel_rfl)) ?_
  · match ds, h with
    | [_, _, _], _ => rfl
  · intro W base args ds ps hval _ _ _ hsize
    obtain ⟨l⟩ := args
    obtain ⟨v0, l0, rfl, hs0⟩ := args_cons (n := 2) (by simpa [Try.params4] using hsize)
    obtain ⟨v1, l1, rfl, hs1⟩ := args_cons (n := 1) hs0
    obtain ⟨v2, l2, rfl, hs2⟩ := args_cons (n := 0) hs1
    obtain rfl := List.eq_nil_of_length_eq_zero hs2
    have hv0 := hval 0 3 v0 (by rw [Try.params4]; rfl) rfl
    have hv1 := hval 1 29 v1 (by rw [Try.params4]; rfl) rfl
    have hv2 := hval 2 35 v2 (by rw [Try.params4]; rfl) rfl
    clear hval hsize
    obtain ⟨a0, rfl, wf0⟩ := arg_int Try.underlying3 hv0
    obtain ⟨a1, rfl, wf1⟩ := arg_int Try.underlying29 hv1
    obtain ⟨cs2, rfl, hc2_0⟩ := open_flat (ts := List.replicate 12 29 ++ ([])) (by kernel_rfl) (by kernel_rfl) (by kernel_rfl) hv2
    obtain ⟨x2_0, r2_0, rfl, len2_0, wf2_0, hc2_1⟩ := cellsOk_ints Try.underlying29 12 hc2_0
    obtain rfl := cellsOk_nil hc2_1
    exact (csrMasks_walk a0 wf0 a1 wf1 x2_0 len2_0 wf2_0 W).mono fun _ _ ⟨he, hg⟩ => ⟨he, hg.below⟩
theorem over : Rows.csrMasksRow.holds Try.pinned (OpenSpec.ofChange Rows.csrMasksSpec) :=
  OpenClaim.holds_of_wide 4 Try.f4 rfl rfl rfl rfl rfl rfl rfl ⟨rfl, rfl, rfl, rfl, rfl⟩ rfl rfl rfl rfl rfl (by kernel_rfl) Try.func4 (by kernel_rfl)
    (of_decide_eq_true (by kernel_rfl)) (by unfold Func.isWrapper; first | (rw [if_pos (by decide +kernel)]; kernel_rfl) | (rw [if_neg (by decide +kernel)]; exact ⟨rfl, rfl⟩))
    (fun os started H enc _ => lifted os started H enc)
end csrMasks
theorem csrMasks_holds : Rows.CsrMasksSaid := csrMasks.over
#print axioms csrMasks_holds
end Go.Proofs.Ytoehigcojgeioaa
