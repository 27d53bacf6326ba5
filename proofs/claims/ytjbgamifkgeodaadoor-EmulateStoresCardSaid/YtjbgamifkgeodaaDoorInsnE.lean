/- What Encode and Decode of the package insn compute. -/
import Derived.Test.YtjbgamifkgeodaaDoorInsnV2
namespace Go.Proofs.YtjbgamifkgeodaaDoor
open Go Go.RowKit
set_option linter.unusedSimpArgs false
set_option linter.unusedVariables false
theorem encode_no {op rd r1 r2 v : Int} (wo : wf64 op) (h : validB op rd r1 r2 v = false) (w : World) :
    Calls Tryd.prog 25 #[.agg #[.int .i64 op, .int .i64 rd, .int .i64 r1, .int .i64 r2, .int .i64 v]] w fun r w' => r = .returned (.tuple #[.int .u32 0, .int .i64 10]) ∧ Grows w w' := by
  have hv := fun w => valid_any op rd r1 r2 v wo w
  rw [h] at hv
  clear h
  go_enter Tryd.func25, Tryd.ntmps25
  go_wp2_with fail
  refine (hv _).mono ?_
  rintro _ w1 ⟨rfl, g1, rfl⟩
  go_wp2_with fail
  go_ret2
  exact ⟨rfl, ((Grows.refl _).alloc _).grow _⟩
set_option maxHeartbeats 2000000 in
theorem encode_yes {op rd r1 r2 v : Int} (wo : wf64 op) (h : validB op rd r1 r2 v = true) (w : World) :
    Calls Tryd.prog 25 #[.agg #[.int .i64 op, .int .i64 rd, .int .i64 r1, .int .i64 r2, .int .i64 v]] w fun r w' => r = .returned (.tuple #[.int .u32 (encW op rd r1 r2 v), .int .i64 0]) ∧ Grows w w' := by
  have hv := fun w => valid_any op rd r1 r2 v wo w
  rw [h] at hv
  obtain ⟨a1, a2, a3, a4, a5, a6, a7, a8, _, a10, _⟩ := validB_bounds h
  have hsh := fun w => shape_yes wo a10 w
  have hor := enc_or h
  have hpl := enc_place h
  obtain ⟨s, hs⟩ : ∃ s, s = shapeZ op := ⟨_, rfl⟩
  rw [← hs] at hsh hpl
  have HP := Lib.hid hpl
  obtain ⟨E, hE⟩ : ∃ E, E = op * 67108864 + rd * 4194304 + r1 * 262144 + r2 * 16384 := ⟨_, rfl⟩
  have hb : 0 ≤ E ∧ E < 4294967296 := by omega
  rw [← hE] at hor hpl
  have HO := Lib.hid hor
  have HPL := Lib.hid hpl
  have HB := Lib.hid hb
  clear hs h hor hpl HP hE hb a10
  go_enter Tryd.func25, Tryd.ntmps25
  go_wp2_with fail
  refine (hv _).mono ?_
  rintro _ w1 ⟨rfl, g1, rfl⟩
  go_wp2_with fail
  refine (hsh _).mono ?_
  rintro _ w2 ⟨rfl, g2, rfl⟩
  by_cases h5 : s = 5
  · subst h5
    have e := HPL.out
    rw [if_pos rfl] at e
    have HE := Lib.hid e
    clear e HPL
    go_wp2_with fail
    rw [HO.out]
    refine (place_any _ _ _ _ _ HB.out).mono ?_
    rintro _ w3 ⟨rfl, g3, rfl⟩
    rw [HE.out]
    go_wp2_with fail
    go_ret2
    exact ⟨rfl, ((Grows.refl _).alloc _).grow _⟩
  · have h5' : (s == 5) = false := by simp [h5]
    have e := HPL.out
    rw [if_neg h5] at e
    have HE := Lib.hid e
    clear h5 e
    go_wp2_with fail
    rw [HO.out]
    refine (place_any _ _ _ _ _ HB.out).mono ?_
    rintro _ w3 ⟨rfl, g3, rfl⟩
    rw [HE.out]
    go_wp2_with fail
    go_ret2
    exact ⟨rfl, ((Grows.refl _).alloc _).grow _⟩
end Go.Proofs.YtjbgamifkgeodaaDoor
