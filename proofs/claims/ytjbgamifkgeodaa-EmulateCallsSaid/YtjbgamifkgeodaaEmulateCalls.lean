/- EmulateCalls: any trap becomes the fault of the reference; any call has its number and arguments, and its answer. For all traps, registers and numbers. No condition. -/
import Derived.Test.YtjbgamifkgeodaaEmuCallsW
import Derived.Test.YtjbgamifkgeodaaRow
import Derived.Test.YtjbgamifkgeodaaRows
namespace Go.Proofs.Ytjbgamifkgeodaa
open Go Go.RowKit
set_option linter.unusedSimpArgs false
set_option linter.unusedVariables false
namespace emulateCalls
open Go.ChangeShapes Go.WideShapes Go.ChangeAt Go.RowKit
theorem own : ownKnob Try.prog.godebug = none := by kernel_rfl
set_option maxRecDepth 100000 in
theorem lifted (os : Os) (started : os.Started) (H : Type) (enc : TypeId × Value → H) :
    ReturnsInHanded {} Try.checked os 4 .any (Rows.emulateCallsSpec.pre6 enc Try.prog Try.f4 Rows.emulateCallsRow.domain false) (Rows.emulateCallsSpec.post enc Try.prog Try.f4 false true false false) := by
  refine law_lifted (C := Try.checked) started own (by kernel_rfl) Try.func4 rfl (by kernel_rfl) (by kernel_rfl) (by kernel_rfl) Try.underlying4
    (fun ds h => ?_)
    (ChangeSpec.witness6 (enc := enc) (C := Try.checked) false ⟨#[], #[.agg #[.int .i64 0, .int .u64 0, .int .u64 0], .agg #[.int .u64 0, .int .u64 0, .int .u64 0, .int .u64 0, .int .u64 0, .int .u64 0, .int .u64 0, .int .u64 0, .int .u64 0, .int .u64 0, .int .u64 0, .int .u64 0, .int .u64 0, .int .u64 0, .int .u64 0, .int .u64 0, .int .u64 0, .int .i64 0], .int .u64 0], []⟩ 8 (by kernel_rfl) (by kernel_rfl) (by kernel_rfl) (by kernel_rfl)) ?_
  · match ds, h with
    | [_, _, _], _ => rfl
  · intro W base args ds ps hval hA _ hz hsize
    obtain ⟨l⟩ := args
    obtain ⟨v0, l0, rfl, hs0⟩ := args_cons (n := 2) (by simpa [Try.params4] using hsize)
    obtain ⟨v1, l1, rfl, hs1⟩ := args_cons (n := 1) hs0
    obtain ⟨v2, l2, rfl, hs2⟩ := args_cons (n := 0) hs1
    obtain rfl := List.eq_nil_of_length_eq_zero hs2
    have hv0 := hval 0 24 v0 (by rw [Try.params4]; rfl) rfl
    have hv1 := hval 1 32 v1 (by rw [Try.params4]; rfl) rfl
    have hv2 := hval 2 22 v2 (by rw [Try.params4]; rfl) rfl
    clear hval hsize
    obtain ⟨cs0, rfl, hc0_0⟩ := open_flat (ts := [3, 22, 22]) (by kernel_rfl) (by kernel_rfl) (by kernel_rfl) hv0
    obtain ⟨c0_0, r0_0, rfl, h0_0, hc0_1⟩ := cellsOk_cons hc0_0; obtain ⟨x0_0, rfl, wf0_0⟩ := cell_int Try.underlying3 h0_0
    obtain ⟨c0_1, r0_1, rfl, h0_1, hc0_2⟩ := cellsOk_cons hc0_1; obtain ⟨x0_1, rfl, wf0_1⟩ := cell_int Try.underlying22 h0_1
    obtain ⟨c0_2, r0_2, rfl, h0_2, hc0_3⟩ := cellsOk_cons hc0_2; obtain ⟨x0_2, rfl, wf0_2⟩ := cell_int Try.underlying22 h0_2
    obtain rfl := cellsOk_nil hc0_3
    obtain ⟨cs1, rfl, hc1_0⟩ := open_flat (ts := List.replicate 16 22 ++ ([22, 3])) (by kernel_rfl) (by kernel_rfl) (by kernel_rfl) hv1
    obtain ⟨x1_0, r1_0, rfl, len1_0, wf1_0, hc1_1⟩ := cellsOk_ints Try.underlying22 16 hc1_0
    obtain ⟨c1_1, r1_1, rfl, h1_1, hc1_2⟩ := cellsOk_cons hc1_1; obtain ⟨x1_1, rfl, wf1_1⟩ := cell_int Try.underlying22 h1_1
    obtain ⟨c1_2, r1_2, rfl, h1_2, hc1_3⟩ := cellsOk_cons hc1_2; obtain ⟨x1_2, rfl, wf1_2⟩ := cell_int Try.underlying3 h1_2
    obtain rfl := cellsOk_nil hc1_3
    obtain ⟨a2, rfl, wf2⟩ := arg_int Try.underlying22 hv2
    exact (emulateCalls_walk x0_0 wf0_0 x0_1 wf0_1 x0_2 wf0_2 x1_0 len1_0 wf1_0 x1_1 wf1_1 x1_2 wf1_2 a2 wf2 W).mono fun _ _ ⟨he, hg⟩ => ⟨he, hg.below⟩
theorem over : Rows.emulateCallsRow.holds Try.pinned (OpenSpec.ofChange Rows.emulateCallsSpec) :=
  OpenClaim.holds_of_wide 4 Try.f4 rfl rfl rfl rfl rfl rfl rfl ⟨rfl, rfl, rfl, rfl, rfl⟩ rfl rfl rfl rfl rfl (by kernel_rfl) Try.func4 (by kernel_rfl)
    (of_decide_eq_true (by kernel_rfl)) (by unfold Func.isWrapper; first | (rw [if_pos (by decide +kernel)]; kernel_rfl) | (rw [if_neg (by decide +kernel)]; exact ⟨rfl, rfl⟩))
    (fun os started H enc _ => lifted os started H enc)
end emulateCalls
theorem emulateCalls_holds : Rows.EmulateCallsSaid := emulateCalls.over
#print axioms emulateCalls_holds
end Go.Proofs.Ytjbgamifkgeodaa
