/- frames: Hold and Quota with all their outcomes. -/
import Derived.Test.YtbiadhgkpggdeaaFrO
namespace Go.Proofs.Ytbiadhgkpggdeaa
open Go Go.RowKit
set_option linter.unusedSimpArgs false
set_option linter.unusedVariables false
def HoldR (n : Nat) (T O : Nat → Nat) (x who : Int) (T' : Nat → Nat) (e : Int) : Prop :=
  (wrE n T O x who (e1 who) ≠ 0 ∧ e = wrE n T O x who (e1 who) ∧ T' = T) ∨
  ∃ j : Nat, x = j ∧ j < n ∧ 0 < T j ∧ (O j : Int) = who ∧ ((65536 ≤ T j ∧ e = 18 ∧ T' = T) ∨ (T j < 65536 ∧ e = 0 ∧ T' = upF T j (T j + 1)))
theorem Hold_all {w : World} {p bt bw n first low : Nat} {T O : Nat → Nat} {quo : Nat → Int} (h : FrAt w p bt bw n first T O quo low) (x who : Int) :
    Calls Try.prog 14 #[.pointer (some ⟨p, 0, none⟩), .int .i64 x, .int .i64 who] w fun r w' => ∃ e T', r = .returned (.int .i64 e) ∧ FrAt w' p bt bw n first T' O quo low ∧ Chg [p, bt, bw] w w' ∧ HoldR n T O x who T' e := by
  by_cases he : wrE n T O x who (e1 who) = 0
  · obtain ⟨_, j, rfl, hj, hT, hO⟩ := wrE_zero he
    subst hO
    by_cases hf : 65536 ≤ T j
    · exact (Hold_full h hj hf rfl).mono fun _ _ ⟨hr, hg⟩ => ⟨18, T, hr, h.grows hg, Chg.of_grows hg, Or.inr ⟨j, rfl, hj, hT, rfl, Or.inl ⟨hf, rfl, rfl⟩⟩⟩
    · exact (Hold_ok h hj (by omega) hT rfl).mono fun _ _ ⟨hr, hF, hc⟩ => ⟨0, _, hr, hF, hc, Or.inr ⟨j, rfl, hj, hT, rfl, Or.inr ⟨by omega, rfl, rfl⟩⟩⟩
  · exact (Hold_bad h x who he).mono fun _ _ ⟨hr, hg⟩ => ⟨_, T, hr, h.grows hg, Chg.of_grows hg, Or.inl ⟨he, rfl, rfl⟩⟩
theorem Quota_all {w : World} {p bt bw n first low : Nat} {T O : Nat → Nat} {quo : Nat → Int} (h : FrAt w p bt bw n first T O quo low) (x q : Int) :
    Calls Try.prog 8 #[.pointer (some ⟨p, 0, none⟩), .int .i64 x, .int .i64 q] w fun r w' => ∃ e quo', r = .returned (.int .i64 e) ∧ FrAt w' p bt bw n first T O quo' low ∧ Chg [p, bt, bw] w w' ∧
      (((¬ isOwn x ∨ q < 0) ∧ e = 2 ∧ quo' = quo) ∨ ∃ o : Nat, x = o ∧ o < 17 ∧ 0 ≤ q ∧ e = 0 ∧ quo' = fun j => if j = o then q else quo j) := by
  by_cases hb : ¬ isOwn x ∨ q < 0
  · exact (Quota_bad h x q hb).mono fun _ _ ⟨hr, hg⟩ => ⟨2, quo, hr, h.grows hg, Chg.of_grows hg, Or.inl ⟨hb, rfl, rfl⟩⟩
  · have hx : isOwn x := Classical.byContradiction fun hh => hb (Or.inl hh)
    obtain ⟨o, rfl, ho⟩ : ∃ o : Nat, x = o ∧ o < 17 := ⟨x.toNat, by unfold isOwn at hx; omega, by unfold isOwn at hx; omega⟩
    exact (Quota_ok h ho (q := q) (by omega)).mono fun _ _ ⟨hr, hF, hc⟩ => ⟨0, _, hr, hF, hc.weaken (by simp), Or.inr ⟨o, rfl, ho, by omega, rfl, rfl⟩⟩
end Go.Proofs.Ytbiadhgkpggdeaa
