/- A lock and its reference, side by side. -/
import Derived.Test.YtbiadhgkpggdeaaDoorRTickN
namespace Go.Proofs.YtbiadhgkpggdeaaDoor
open Go Go.RowKit
set_option linter.unusedSimpArgs false
set_option linter.unusedVariables false
theorem Ready.chg {S' : List Nat} {w w' : World} {pl p q N A qc n : Nat} {B : Nat → Nat} {S T : Nat → Nat} (h : Ready w pl p q N A qc n B S T) (hc : Chg S' w w')
    (h1 : pl ∉ S' ∧ p ∉ S' ∧ q ∉ S' ∧ qc ∉ S') (h2 : 1 ∉ S' ∧ 0 ∉ S') : Ready w' pl p q N A qc n B S T :=
  ⟨h.l.chg hc h1.1 h1.2.2.2, h.m.chg hc h1.2.1 h1.2.2.1, h.a8, h.aN, h.ne, Widths.chg h.hW hc h2.1, Follows.chg h.hF hc h2.2, h.gq⟩
def outC (n : Nat) (C : Int) : Prop := C < 0 ∨ (n : Int) ≤ C
instance (n : Nat) (C : Int) : Decidable (outC n C) := inferInstanceAs (Decidable (_ ∨ _))
theorem inC {n : Nat} {C : Int} (h : ¬ outC n C) : ∃ i : Nat, C = i ∧ i < n := ⟨C.toNat, by unfold outC at h; omega, by unfold outC at h; omega⟩
theorem notOut {n i : Nat} (h : i < n) : ¬ outC n (i : Int) := by unfold outC; omega
def setE (S : Nat → Nat) (n : Nat) (C : Int) (a : Nat) : Int := if outC n C then 2 else if S C.toNat = a then 0 else 21
def setF (S : Nat → Nat) (n : Nat) (C : Int) (a b : Nat) : Nat → Nat := if outC n C then S else if S C.toNat = a then updN S C.toNat b else S
def stepE (n : Nat) (C : Int) : Int := if outC n C then 2 else 0
def stepV (S T : Nat → Nat) (n now : Nat) (C : Int) : Int := if outC n C then 0 else (nxS S T now C.toNat : Nat)
def stepS (S T : Nat → Nat) (n now : Nat) (C : Int) : Nat → Nat := if outC n C then S else updN S C.toNat (nxS S T now C.toNat)
def stepT (S T : Nat → Nat) (n next : Nat) (C : Int) : Nat → Nat := if outC n C then T else nxT S T next C.toNat
def stepB (S : Nat → Nat) (n A : Nat) (B : Nat → Nat) (C : Int) : Nat → Nat := if outC n C then B else nxB S A B C.toNat
theorem Take_all {w : World} {pl p q N A qc n : Nat} {B : Nat → Nat} {S T : Nat → Nat} (h : Ready w pl p q N A qc n B S T) (C : Int) :
    Calls Tryd.prog 10 #[.pointer (some ⟨pl, 0, none⟩), .int .i64 C] w fun r w' => r = .returned (.int .i64 (setE S n C 0)) ∧ Ready w' pl p q N A qc n B (setF S n C 0 1) T ∧ Chg [qc, q] w w' := by
  unfold setE setF
  by_cases hC : outC n C
  · rw [if_pos hC, if_pos hC]
    exact (Take_bad (by omega) (of_bad h.l hC)).mono fun _ _ ⟨he, hw⟩ => ⟨he, by rw [hw]; exact h, by rw [hw]; exact Chg.refl _ _⟩
  · obtain ⟨i, rfl, hi⟩ := inC hC
    rw [if_neg hC, if_neg hC, Int.toNat_natCast]
    exact Take_any h hi
theorem Give_all {w : World} {pl p q N A qc n : Nat} {B : Nat → Nat} {S T : Nat → Nat} (h : Ready w pl p q N A qc n B S T) (C : Int) :
    Calls Tryd.prog 12 #[.pointer (some ⟨pl, 0, none⟩), .int .i64 C] w fun r w' => r = .returned (.int .i64 (setE S n C 3)) ∧ Ready w' pl p q N A qc n B (setF S n C 3 4) T ∧ Chg [qc, q] w w' := by
  unfold setE setF
  by_cases hC : outC n C
  · rw [if_pos hC, if_pos hC]
    exact (Give_bad (by omega) (of_bad h.l hC)).mono fun _ _ ⟨he, hw⟩ => ⟨he, by rw [hw]; exact h, by rw [hw]; exact Chg.refl _ _⟩
  · obtain ⟨i, rfl, hi⟩ := inC hC
    rw [if_neg hC, if_neg hC, Int.toNat_natCast]
    exact Give_any h hi
theorem Set_all {w : World} {rl rp rq N A qs qt n : Nat} {B S T : Nat → Nat} (h : RReady w rl rp rq N A qs qt n B S T) (C : Int) (a b : Nat) :
    Calls Tryd.prog 18 #[.pointer (some ⟨rl, 0, none⟩), .int .i64 C, .int .i64 a, .int .i64 b] w fun r w' => r = .returned (.int .i64 (setE S n C a)) ∧ RReady w' rl rp rq N A qs qt n B (setF S n C a b) T ∧ Chg [qs, qt, rq] w w' := by
  unfold setE setF
  by_cases hC : outC n C
  · rw [if_pos hC, if_pos hC]
    exact (Set_bad h hC).mono fun _ _ ⟨he, hw⟩ => ⟨he, by rw [hw]; exact h, by rw [hw]; exact Chg.refl _ _⟩
  · obtain ⟨i, rfl, hi⟩ := inC hC
    rw [if_neg hC, if_neg hC, Int.toNat_natCast]
    exact (Set_any h hi).mono fun _ _ ⟨he, hw, hc⟩ => ⟨he, hw, hc.weaken (by simp)⟩
theorem Step_all {w : World} {pl p q N A qc n : Nat} {B : Nat → Nat} {S T : Nat → Nat} (h : Ready w pl p q N A qc n B S T) (C : Int) :
    Calls Tryd.prog 11 #[.pointer (some ⟨pl, 0, none⟩), .int .i64 C] w fun r w' => r = .returned (.tuple #[.int .i64 (stepV S T n (numB B (A + 8)) C), .int .i64 (stepE n C)]) ∧
      Ready w' pl p q N A qc n (stepB S n A B C) (stepS S T n (numB B (A + 8)) C) (stepT S T n (numB B A) C) ∧ Chg [qc, q] w w' := by
  unfold stepV stepE stepB stepS stepT
  by_cases hC : outC n C
  · simp only [if_pos hC]
    exact (step_bad (by omega) (of_bad h.l hC)).mono fun _ _ ⟨he, hw⟩ => ⟨he, by rw [hw]; exact h, by rw [hw]; exact Chg.refl _ _⟩
  · obtain ⟨i, rfl, hi⟩ := inC hC
    simp only [if_neg hC, Int.toNat_natCast]
    exact step_any h hi
theorem rStep_all {w : World} {rl rp rq N A qs qt n : Nat} {B S T : Nat → Nat} (h : RReady w rl rp rq N A qs qt n B S T) (h4 : ∀ i, i < n → S i ≤ 4) (C : Int) :
    Calls Tryd.prog 19 #[.pointer (some ⟨rl, 0, none⟩), .int .i64 C] w fun r w' => r = .returned (.tuple #[.int .i64 (stepV S T n (numB B (A + 8)) C), .int .i64 (stepE n C)]) ∧
      RReady w' rl rp rq N A qs qt n (stepB S n A B C) (stepS S T n (numB B (A + 8)) C) (stepT S T n (numB B A) C) ∧ Chg [qs, qt, rq] w w' := by
  unfold stepV stepE stepB stepS stepT
  by_cases hC : outC n C
  · simp only [if_pos hC]
    exact (rstep_bad h hC).mono fun _ _ ⟨he, hw⟩ => ⟨he, by rw [hw]; exact h, by rw [hw]; exact Chg.refl _ _⟩
  · obtain ⟨i, rfl, hi⟩ := inC hC
    simp only [if_neg hC, Int.toNat_natCast]
    exact rstep_any h hi (h4 i hi)
theorem State_all {w : World} {pl p A qc n : Nat} {S T : Nat → Nat} (h : LockAt w pl p A qc n S T) (C : Int) :
    Calls Tryd.prog 14 #[.pointer (some ⟨pl, 0, none⟩), .int .i64 C] w fun r w' => r = .returned (.tuple #[.int .i64 (if outC n C then 0 else (S C.toNat : Nat)), .int .u64 (if outC n C then 0 else (T C.toNat : Nat))]) ∧ Grows w w' := by
  by_cases hC : outC n C
  · simp only [if_pos hC]
    exact (State_bad (by omega) (of_bad h hC)).mono fun _ _ ⟨he, hw⟩ => ⟨he, by rw [hw]; exact Grows.refl _⟩
  · obtain ⟨i, rfl, hi⟩ := inC hC
    simp only [if_neg hC, Int.toNat_natCast]
    exact State_any h hi
/-- Both. -/
structure Duo (w : World) (pl p q qc rl rp rq qs qt N A n : Nat) (B S T : Nat → Nat) : Prop where
  l : Ready w pl p q N A qc n B S T
  r : RReady w rl rp rq N A qs qt n B S T
/-- None of the one's blocks is the other's. -/
structure Apart (pl p q qc rl rp rq qs qt : Nat) : Prop where
  a : rl ∉ [qc, q] ∧ qs ∉ [qc, q] ∧ qt ∉ [qc, q] ∧ rp ∉ [qc, q] ∧ rq ∉ [qc, q]
  b : pl ∉ [qs, qt, rq] ∧ p ∉ [qs, qt, rq] ∧ q ∉ [qs, qt, rq] ∧ qc ∉ [qs, qt, rq]
  c : 1 ∉ [qs, qt, rq] ∧ 0 ∉ [qs, qt, rq]
theorem Duo.grows {w w' : World} {pl p q qc rl rp rq qs qt N A n : Nat} {B S T : Nat → Nat} (h : Duo w pl p q qc rl rp rq qs qt N A n B S T) (hg : Grows w w') : Duo w' pl p q qc rl rp rq qs qt N A n B S T := ⟨h.l.grows hg, h.r.grows hg⟩
/-- The lock was stepped: the reference as it was. -/
theorem Duo.half {w w1 : World} {pl p q qc rl rp rq qs qt N A n : Nat} {B S T : Nat → Nat} (h : Duo w pl p q qc rl rp rq qs qt N A n B S T) (ha : Apart pl p q qc rl rp rq qs qt) (hc : Chg [qc, q] w w1) : RReady w1 rl rp rq N A qs qt n B S T := h.r.chg hc ha.a
theorem duo_next {w1 w2 : World} {pl p q qc rl rp rq qs qt N A n : Nat} {B S T : Nat → Nat} (ha : Apart pl p q qc rl rp rq qs qt) (h1 : Ready w1 pl p q N A qc n B S T) (h2 : RReady w2 rl rp rq N A qs qt n B S T) (hc : Chg [qs, qt, rq] w1 w2) : Duo w2 pl p q qc rl rp rq qs qt N A n B S T :=
  ⟨h1.chg hc ha.b ha.c, h2⟩
theorem Has_all {w : World} {rl rp rq N A qs qt n : Nat} {B S T : Nat → Nat} (h : RReady w rl rp rq N A qs qt n B S T) (C : Int) (g : Pad) :
    Calls Tryd.prog 22 #[.pointer (some ⟨rl, 0, none⟩), .int .i64 C] (w.grow g) fun r w' => r = .returned (.bool (!decide (outC n C))) ∧ ∃ h, w' = w.grow h := by
  by_cases hC : outC n C
  · rw [decide_eq_true hC]
    exact (Has_no (h.grows (Grows.of _ g)) hC).mono fun _ _ ⟨he, hw⟩ => ⟨he, g, hw⟩
  · obtain ⟨i, rfl, hi⟩ := inC hC
    rw [decide_eq_false hC]
    exact (Has_yes (h.grows (Grows.of _ g)) hi).mono fun _ _ ⟨he, hw⟩ => ⟨he, g, hw⟩
end Go.Proofs.YtbiadhgkpggdeaaDoor
