/- CsrBack: behind a trap one comes back to where one was, in the mode, and with interrupts as they were; in between none comes in Kernel. For all acts, traps and numbers. No condition. -/
import Derived.Test.YtoehigcojgeioaaCsrBackW
import Derived.Test.YtoehigcojgeioaaRow
import Derived.Test.YtoehigcojgeioaaRows
import Derived.Test.YtoehigcojgeioaaSlice
namespace Go.Proofs.Ytoehigcojgeioaa
open Go Go.RowKit
set_option linter.unusedSimpArgs false
set_option linter.unusedVariables false
namespace csrBack
open Go.ChangeShapes Go.WideShapes Go.ChangeAt Go.RowKit
theorem own : ownKnob Try.prog.godebug = none := by kernel_rfl
set_option maxRecDepth 100000 in
theorem lifted (os : Os) (started : os.Started) (H : Type) (enc : TypeId × Value → H) :
    ReturnsInHanded {} Try.checked os 5 .any (Rows.csrBackSpec.pre6 enc Try.prog Try.f5 Rows.csrBackRow.domain false) (Rows.csrBackSpec.post enc Try.prog Try.f5 false true false false) := by
  refine law_lifted (C := Try.checked) started own (by kernel_rfl) Try.func5 rfl (by kernel_rfl) (by kernel_rfl) (by kernel_rfl) Try.underlying4
    (fun ds h => ?_)
    (ChangeSpec.witness6 (enc := enc) (C := Try.checked) false ⟨#[], #[.slice none 0 0, .agg #[.int .i64 0, .int .u64 0, .int .u64 0], .int .u64 0], []⟩ 8 (by kernel_rfl) (by kernel_rfl) (by kernel_rfl) (by kernel_rfl)) ?_
  · match ds, h with
    | [_, _, _], _ => rfl
  · intro W base args ds ps hval hA _ hz hsize
    obtain ⟨l⟩ := args
    obtain ⟨v0, l0, rfl, hs0⟩ := args_cons (n := 2) (by simpa [Try.params5] using hsize)
    obtain ⟨v1, l1, rfl, hs1⟩ := args_cons (n := 1) hs0
    obtain ⟨v2, l2, rfl, hs2⟩ := args_cons (n := 0) hs1
    obtain rfl := List.eq_nil_of_length_eq_zero hs2
    have hv0 := hval 0 38 v0 (by rw [Try.params5]; rfl) rfl
    have hv1 := hval 1 40 v1 (by rw [Try.params5]; rfl) rfl
    have hv2 := hval 2 29 v2 (by rw [Try.params5]; rfl) rfl
    clear hval hsize
    rw [Try.params5] at hA hz
    obtain ⟨d0, ds0, p0, q0, rfl, ht0, hA⟩ := trodAll_cons hA
    obtain ⟨d1, ds1, p1, q1, rfl, ht1, hA⟩ := trodAll_cons hA
    obtain ⟨d2, ds2, p2, q2, rfl, ht2, hA⟩ := trodAll_cons hA
    obtain ⟨A0, n0, c0, X0, rfl, hnc0, hcm0, hsz0, hX0⟩ := open_rows (ts := [3, 3, 3, 29, 3, 29, 29, 4]) 8 0 Try.underlying38 (by kernel_rfl) (by kernel_rfl) (by decide) hv0 ht0 hz rfl rfl
    rw [show Try.prog.bytesOf 42 = 64 by kernel_rfl] at hsz0
    obtain ⟨cs1, rfl, hc1_0⟩ := open_flat (ts := [3, 29, 29]) (by kernel_rfl) (by kernel_rfl) (by kernel_rfl) hv1
    obtain ⟨c1_0, r1_0, rfl, h1_0, hc1_1⟩ := cellsOk_cons hc1_0; obtain ⟨x1_0, rfl, wf1_0⟩ := cell_int Try.underlying3 h1_0
    obtain ⟨c1_1, r1_1, rfl, h1_1, hc1_2⟩ := cellsOk_cons hc1_1; obtain ⟨x1_1, rfl, wf1_1⟩ := cell_int Try.underlying29 h1_1
    obtain ⟨c1_2, r1_2, rfl, h1_2, hc1_3⟩ := cellsOk_cons hc1_2; obtain ⟨x1_2, rfl, wf1_2⟩ := cell_int Try.underlying29 h1_2
    obtain rfl := cellsOk_nil hc1_3
    obtain ⟨a2, rfl, wf2⟩ := arg_int Try.underlying29 hv2
    exact (csrBack_walk W A0 n0 c0 X0 hnc0 hsz0 hX0 x1_0 wf1_0 x1_1 wf1_1 x1_2 wf1_2 a2 wf2).mono fun _ _ ⟨he, hg⟩ => ⟨he, hg.below⟩
theorem over : Rows.csrBackRow.holds Try.pinned (OpenSpec.ofChange Rows.csrBackSpec) :=
  OpenClaim.holds_of_wide 5 Try.f5 rfl rfl rfl rfl rfl rfl rfl ⟨rfl, rfl, rfl, rfl, rfl⟩ rfl rfl rfl rfl rfl (by kernel_rfl) Try.func5 (by kernel_rfl)
    (of_decide_eq_true (by kernel_rfl)) (by unfold Func.isWrapper; first | (rw [if_pos (by decide +kernel)]; kernel_rfl) | (rw [if_neg (by decide +kernel)]; exact ⟨rfl, rfl⟩))
    (fun os started H enc _ => lifted os started H enc)
end csrBack
theorem csrBack_holds : Rows.CsrBackSaid := csrBack.over
#print axioms csrBack_holds
end Go.Proofs.Ytoehigcojgeioaa
