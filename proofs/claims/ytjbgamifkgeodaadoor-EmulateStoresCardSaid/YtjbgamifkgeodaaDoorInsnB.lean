/- Words there and back, in plain numbers. -/
import Derived.Test.YtjbgamifkgeodaaDoorInsnF
namespace Go.Proofs.YtjbgamifkgeodaaDoor
open Go Go.RowKit
set_option linter.unusedSimpArgs false
set_option linter.unusedVariables false
theorem field_lit (x : Int) (a n : Nat) (hn : 1 ≤ n) (h : a + n ≤ 32) : fieldZ x a n = x / 2 ^ a % 2 ^ n := by
  unfold fieldZ
  have hl : liesB a n = true := by simp [liesB]; omega
  rw [if_pos hl]; simp
theorem f26 (x : Int) : fieldZ x 26 6 = x / 67108864 % 64 := by have := field_lit x 26 6 (by omega) (by omega); simpa using this
theorem f22 (x : Int) : fieldZ x 22 4 = x / 4194304 % 16 := by have := field_lit x 22 4 (by omega) (by omega); simpa using this
theorem f18 (x : Int) : fieldZ x 18 4 = x / 262144 % 16 := by have := field_lit x 18 4 (by omega) (by omega); simpa using this
theorem f14 (x : Int) : fieldZ x 14 4 = x / 16384 % 16 := by have := field_lit x 14 4 (by omega) (by omega); simpa using this
theorem f018 (x : Int) : fieldZ x 0 18 = x % 262144 := by have := field_lit x 0 18 (by omega) (by omega); simpa using this
theorem f014 (x : Int) : fieldZ x 0 14 = x % 16384 := by have := field_lit x 0 14 (by omega) (by omega); simpa using this
theorem s18 (v : Int) : sgnZ v 18 = (v + 131072) % 262144 - 131072 := rfl
theorem s14 (v : Int) : sgnZ v 14 = (v + 8192) % 16384 - 8192 := rfl
theorem imm_range {op v : Int} (h : immB op (shapeZ op) v = true) : (shapeZ op = 5 → -131072 ≤ v ∧ v < 131072) ∧ (shapeZ op ≠ 5 → -8192 ≤ v ∧ v < 8192) := by
  unfold immB at h
  split at h
  · rename_i h1
    have : shapeZ op ≠ 5 := by unfold shapeZ; repeat (split <;> first | omega | skip)
    simp at h
    exact ⟨fun e => absurd e this, fun _ => by omega⟩
  · split at h
    · rename_i h1 h2
      have : shapeZ op ≠ 5 := by unfold shapeZ; repeat (split <;> first | omega | skip)
      simp at h
      exact ⟨fun e => absurd e this, fun _ => by omega⟩
    · split at h
      · rename_i h1 h2 h3
        unfold fitsB at h
        simp [s14] at h
        exact ⟨fun e => by omega, fun _ => by omega⟩
      · split at h
        · rename_i h5
          unfold fitsB at h
          simp [s18] at h
          exact ⟨fun e => by omega, fun e => absurd h5 e⟩
        · rename_i h5
          simp at h
          exact ⟨fun e => absurd e h5, fun _ => by omega⟩
/-- A word tells its instruction again. -/
theorem enc_back {op rd r1 r2 v : Int} (h : validB op rd r1 r2 v = true) :
    dOp (encW op rd r1 r2 v) = op ∧ dRd (encW op rd r1 r2 v) = rd ∧ dR1 (encW op rd r1 r2 v) = r1 ∧ dR2 (encW op rd r1 r2 v) = r2 ∧ dV (encW op rd r1 r2 v) = v := by
  obtain ⟨a1, a2, a3, a4, a5, a6, a7, a8, a9, _, a11⟩ := validB_bounds h
  obtain ⟨i5, in5⟩ := imm_range a11
  have hO : dOp (encW op rd r1 r2 v) = op := by
    unfold dOp encW; rw [f26]; split <;> omega
  unfold dR1 dR2 dV
  rw [hO]
  unfold dRd encW
  by_cases h5 : shapeZ op = 5
  · obtain ⟨e1, e2⟩ := a9 h5
    have := i5 h5
    simp only [if_pos h5, f22, f018, s18]
    refine ⟨trivial, by omega, by omega, by omega, by omega⟩
  · have := in5 h5
    simp only [if_neg h5, f22, f18, f14, f014, s14]
    refine ⟨trivial, by omega, by omega, by omega, by omega⟩
theorem decB_enc {op rd r1 r2 v : Int} (h : validB op rd r1 r2 v = true) : decB (encW op rd r1 r2 v) = true := by
  obtain ⟨e1, e2, e3, e4, e5⟩ := enc_back h
  unfold decB
  rw [e1, e2, e3, e4, e5, h]
  simp
theorem enc_inj {op rd r1 r2 v op' rd' r1' r2' v' : Int} (h : validB op rd r1 r2 v = true) (h' : validB op' rd' r1' r2' v' = true) (e : encW op rd r1 r2 v = encW op' rd' r1' r2' v') : op = op' ∧ rd = rd' ∧ r1 = r1' ∧ r2 = r2' ∧ v = v' := by
  obtain ⟨e1, e2, e3, e4, e5⟩ := enc_back h
  obtain ⟨g1, g2, g3, g4, g5⟩ := enc_back h'
  rw [e] at e1 e2 e3 e4 e5
  exact ⟨e1.symm.trans g1, e2.symm.trans g2, e3.symm.trans g3, e4.symm.trans g4, e5.symm.trans g5⟩
theorem encW_wf {op rd r1 r2 v : Int} (h : validB op rd r1 r2 v = true) : 0 ≤ encW op rd r1 r2 v ∧ encW op rd r1 r2 v < 4294967296 := encW_lt h
end Go.Proofs.YtjbgamifkgeodaaDoor
