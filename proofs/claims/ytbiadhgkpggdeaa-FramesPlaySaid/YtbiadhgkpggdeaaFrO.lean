/- frames: each function with all its outcomes. -/
import Derived.Test.YtbiadhgkpggdeaaFrN
namespace Go.Proofs.Ytbiadhgkpggdeaa
open Go Go.RowKit
set_option linter.unusedSimpArgs false
set_option linter.unusedVariables false
def e1 (a : Int) : Int := if isOwn a then 0 else 2
def e2 (a b : Int) : Int := if isOwn a ∧ isOwn b then 0 else 2
/-- What becomes of Free. -/
def FreeR (n first : Nat) (T O : Nat → Nat) (x who : Int) (T' : Nat → Nat) (fl : Bool) (e : Int) : Prop :=
  (wrE n T O x who (e1 who) ≠ 0 ∧ e = wrE n T O x who (e1 who) ∧ fl = false ∧ T' = T) ∨
  ∃ j : Nat, x = j ∧ j < n ∧ 0 < T j ∧ (O j : Int) = who ∧ ((j < first ∧ e = 21 ∧ fl = false ∧ T' = T) ∨ (first ≤ j ∧ e = 0 ∧ fl = decide (T j = 1) ∧ T' = upF T j (T j - 1)))
theorem Free_all {w : World} {p bt bw n first low : Nat} {T O : Nat → Nat} {quo : Nat → Int} (h : FrAt w p bt bw n first T O quo low) (x who : Int) :
    Calls Try.prog 11 #[.pointer (some ⟨p, 0, none⟩), .int .i64 x, .int .i64 who] w fun r w' => ∃ fl e T' low', r = .returned (.tuple #[.bool fl, .int .i64 e]) ∧ FrAt w' p bt bw n first T' O quo low' ∧ Chg [p, bt, bw] w w' ∧ FreeR n first T O x who T' fl e := by
  by_cases he : wrE n T O x who (e1 who) = 0
  · obtain ⟨_, j, rfl, hj, hT, hO⟩ := wrE_zero he
    subst hO
    by_cases hf : j < first
    · exact (Free_first h hj hT rfl hf).mono fun _ _ ⟨hr, hg⟩ => ⟨false, 21, T, low, hr, h.grows hg, Chg.of_grows hg, Or.inr ⟨j, rfl, hj, hT, rfl, Or.inl ⟨hf, rfl, rfl, rfl⟩⟩⟩
    · by_cases h1 : T j = 1
      · refine (Free_last h hj h1 rfl (by omega)).mono fun _ _ ⟨hr, hF, hc⟩ => ⟨true, 0, _, _, hr, hF, hc, Or.inr ⟨j, rfl, hj, hT, rfl, Or.inr ⟨by omega, rfl, by simp [h1], by rw [h1]⟩⟩⟩
      · refine (Free_more h hj (by omega) rfl (by omega)).mono fun _ _ ⟨hr, hF, hc⟩ => ⟨false, 0, _, _, hr, hF, hc, Or.inr ⟨j, rfl, hj, hT, rfl, Or.inr ⟨by omega, rfl, by simp [h1], rfl⟩⟩⟩
  · exact (Free_bad h x who he).mono fun _ _ ⟨hr, hg⟩ => ⟨false, _, T, low, hr, h.grows hg, Chg.of_grows hg, Or.inl ⟨he, rfl, rfl, rfl⟩⟩
def MoveR (n first : Nat) (T O : Nat → Nat) (quo : Nat → Int) (x a b : Int) (O' : Nat → Nat) (e : Int) : Prop :=
  (wrE n T O x a (e2 a b) ≠ 0 ∧ e = wrE n T O x a (e2 a b) ∧ O' = O) ∨
  ∃ j b' : Nat, x = j ∧ b = b' ∧ b' < 17 ∧ j < n ∧ 0 < T j ∧ (O j : Int) = a ∧ (((j < first ∨ 1 < T j) ∧ e = 21 ∧ O' = O) ∨ (first ≤ j ∧ T j = 1 ∧ O j ≠ b' ∧ quo b' ≤ ownC n T O b' ∧ e = 19 ∧ O' = O) ∨ (first ≤ j ∧ T j = 1 ∧ (O j = b' ∨ (ownC n T O b' : Int) < quo b') ∧ e = 0 ∧ O' = upF O j b'))
theorem Move_all {w : World} {p bt bw n first low : Nat} {T O : Nat → Nat} {quo : Nat → Int} (h : FrAt w p bt bw n first T O quo low) (x a b : Int) :
    Calls Try.prog 12 #[.pointer (some ⟨p, 0, none⟩), .int .i64 x, .int .i64 a, .int .i64 b] w fun r w' => ∃ e O', r = .returned (.int .i64 e) ∧ FrAt w' p bt bw n first T O' quo low ∧ Chg [p, bt, bw] w w' ∧ MoveR n first T O quo x a b O' e := by
  by_cases he : wrE n T O x a (e2 a b) = 0
  · obtain ⟨h2, j, rfl, hj, hT, hO⟩ := wrE_zero he
    subst hO
    have hb : isOwn b := by
      unfold e2 at h2
      by_cases hh : isOwn (O j : Int) ∧ isOwn b
      · exact hh.2
      · rw [if_neg hh] at h2; cases h2
    obtain ⟨b', rfl, hb17⟩ : ∃ b' : Nat, b = b' ∧ b' < 17 := ⟨b.toNat, by unfold isOwn at hb; omega, by unfold isOwn at hb; omega⟩
    by_cases hs : j < first ∨ 1 < T j
    · exact (Move_state h hj hT rfl hb17 hs).mono fun _ _ ⟨hr, hg⟩ => ⟨21, O, hr, h.grows hg, Chg.of_grows hg, Or.inr ⟨j, b', rfl, rfl, hb17, hj, hT, rfl, Or.inl ⟨hs, rfl, rfl⟩⟩⟩
    · by_cases hq : O j = b' ∨ (ownC n T O b' : Int) < quo b'
      · exact (Move_ok h hj (by omega) rfl hb17 (by omega) hq).mono fun _ _ ⟨hr, hF, hc⟩ => ⟨0, _, hr, hF, hc, Or.inr ⟨j, b', rfl, rfl, hb17, hj, hT, rfl, Or.inr (Or.inr ⟨by omega, by omega, hq, rfl, rfl⟩)⟩⟩
      · exact (Move_quota h hj (by omega) rfl hb17 (by omega) (fun e => hq (Or.inl e)) (by omega)).mono fun _ _ ⟨hr, hg⟩ => ⟨19, O, hr, h.grows hg, Chg.of_grows hg, Or.inr ⟨j, b', rfl, rfl, hb17, hj, hT, rfl, Or.inr (Or.inl ⟨by omega, by omega, fun e => hq (Or.inl e), by omega, rfl, rfl⟩)⟩⟩
  · exact (Move_bad h x a b he).mono fun _ _ ⟨hr, hg⟩ => ⟨_, O, hr, h.grows hg, Chg.of_grows hg, Or.inl ⟨he, rfl, rfl⟩⟩
def AllocR (n first : Nat) (T O : Nat → Nat) (quo : Nat → Int) (who : Int) (T' O' : Nat → Nat) (k e : Int) : Prop :=
  (¬ isOwn who ∧ k = 0 ∧ e = 2 ∧ T' = T ∧ O' = O) ∨
  ∃ o : Nat, who = o ∧ o < 17 ∧ ((quo o ≤ ownC n T O o ∧ k = 0 ∧ e = 19 ∧ T' = T ∧ O' = O) ∨ ((ownC n T O o : Int) < quo o ∧ (∀ i, i < n → 0 < T i) ∧ k = 0 ∧ e = 20 ∧ T' = T ∧ O' = O) ∨
    ((ownC n T O o : Int) < quo o ∧ ∃ j : Nat, k = j ∧ j < n ∧ first ≤ j ∧ (∀ i, i < j → 0 < T i) ∧ T j = 0 ∧ e = 0 ∧ T' = upF T j 1 ∧ O' = upF O j o))
theorem Alloc_all {w : World} {p bt bw n first low : Nat} {T O : Nat → Nat} {quo : Nat → Int} (h : FrAt w p bt bw n first T O quo low) (who : Int) :
    Calls Try.prog 10 #[.pointer (some ⟨p, 0, none⟩), .int .i64 who] w fun r w' => ∃ k e T' O' low', r = .returned (.tuple #[.int .i64 k, .int .i64 e]) ∧ FrAt w' p bt bw n first T' O' quo low' ∧ Chg [p, bt, bw] w w' ∧ AllocR n first T O quo who T' O' k e := by
  by_cases hw : isOwn who
  · obtain ⟨o, rfl, ho⟩ : ∃ o : Nat, who = o ∧ o < 17 := ⟨who.toNat, by unfold isOwn at hw; omega, by unfold isOwn at hw; omega⟩
    by_cases hq : quo o ≤ ownC n T O o
    · exact (Alloc_quota h ho hq).mono fun _ _ ⟨hr, hg⟩ => ⟨0, 19, T, O, low, hr, h.grows hg, Chg.of_grows hg, Or.inr ⟨o, rfl, ho, Or.inl ⟨hq, rfl, rfl, rfl, rfl⟩⟩⟩
    · refine (Alloc_any h ho (by omega)).mono fun r w' hh => ?_
      obtain ⟨⟨k, hk, hb, hT, hf, hr, hF⟩ | ⟨hb, hr, hF⟩, hc⟩ := hh
      · exact ⟨_, 0, _, _, _, hr, hF, hc, Or.inr ⟨o, rfl, ho, Or.inr (Or.inr ⟨by omega, k, rfl, hk, hf, hb, hT, rfl, rfl, rfl⟩)⟩⟩
      · exact ⟨0, 20, _, _, _, hr, hF, hc, Or.inr ⟨o, rfl, ho, Or.inr (Or.inl ⟨by omega, hb, rfl, rfl, rfl, rfl⟩)⟩⟩
  · exact (Alloc_bad h hw).mono fun _ _ ⟨hr, hg⟩ => ⟨0, 2, T, O, low, hr, h.grows hg, Chg.of_grows hg, Or.inl ⟨hw, rfl, rfl, rfl, rfl⟩⟩
end Go.Proofs.Ytbiadhgkpggdeaa
