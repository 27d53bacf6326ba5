/- For FramesWhole: a slice of bools; all owners together have what is had. -/
import Derived.Test.YtbiadhgkpggdeaaFrL
namespace Go.Proofs.Ytbiadhgkpggdeaa
open Go Go.RowKit
set_option linter.unusedSimpArgs false
set_option linter.unusedVariables false
/-- n bools. -/
def Bls (w : World) (q n : Nat) (F : Nat → Bool) : Prop := ∃ cs t, Row w q cs t ∧ cs.size = n ∧ ∀ i, i < n → cs[i]? = some (.bool (F i))
theorem Bls.chg {S : List Nat} {w w' : World} {q n : Nat} {F : Nat → Bool} (h : Bls w q n F) (hc : Chg S w w') (hq : q ∉ S) : Bls w' q n F := by
  obtain ⟨cs, t, hr, hl, hx⟩ := h
  exact ⟨cs, t, hr.chg hc hq, hl, hx⟩
theorem Bls.grows {w w' : World} {q n : Nat} {F : Nat → Bool} (h : Bls w q n F) (hg : Grows w w') : Bls w' q n F := h.chg (S := []) (Chg.of_grows hg) (by simp)
theorem Bls.cell {w : World} {q n i : Nat} {F : Nat → Bool} (h : Bls w q n F) (hi : i < n) : w.cell? ⟨q, i, none⟩ = some (.bool (F i)) := by
  obtain ⟨cs, t, hr, hl, hx⟩ := h
  rw [hr.cell]; exact hx i hi
theorem Bls.frozen {w : World} {q n : Nat} {F : Nat → Bool} (h : Bls w q n F) (j : Nat) : w.frozen? ⟨q, j, none⟩ = false := by
  obtain ⟨cs, t, hr, hl, hx⟩ := h
  exact hr.frozen j
theorem Bls.lt {w : World} {q n : Nat} {F : Nat → Bool} (h : Bls w q n F) : q < w.heap.size := by
  obtain ⟨cs, t, hr, hl, hx⟩ := h
  exact hr.lt
theorem Bls.set {w : World} {q n i : Nat} {F : Nat → Bool} (h : Bls w q n F) (hi : i < n) (s : Bool) : Bls (w.setCell ⟨q, i, none⟩ (.bool s)) q n (fun j => if j = i then s else F j) := by
  obtain ⟨cs, t, hr, hl, hx⟩ := h
  refine ⟨_, t, hr.setCell (i := i) (by omega) _, by simpa using hl, fun j hj => ?_⟩
  rw [Array.getElem?_set]
  by_cases e : j = i
  · subst e
    rw [if_pos rfl]; simp
  · rw [if_neg (by omega), hx j hj]; simp [e]
theorem Bls.congr {w : World} {q n : Nat} {F G : Nat → Bool} (h : Bls w q n F) (hc : ∀ i, i < n → F i = G i) : Bls w q n G := by
  obtain ⟨cs, t, hr, hl, hx⟩ := h
  exact ⟨cs, t, hr, hl, fun i hi => by rw [← hc i hi]; exact hx i hi⟩
theorem Bls.made (w : World) (n : Nat) (t : TypeId) : Bls (w.alloc (.cells (madeCells #[.bool false] n) t)) w.heap.size n (fun _ => false) :=
  ⟨_, t, Row.new _ _ _, by rw [size_madeCells], fun i hi => madeCells_at _ n hi⟩
theorem info_bool : (Try.prog.info? 4).map (fun i => (i.zero, i.size, i.bytes)) = some (some (.bool false), 1, 1) := by kernel_rfl
theorem run_make_bool (c : Nat) (hc : c ≤ 65536) (w : World) : (Instr.makeSlice 49 (.int .i64 c) (.int .i64 c)).run Try.prog w =
    .ok (.slice (some ⟨w.heap.size, 0, none⟩) c c) (w.alloc (.cells (madeCells #[.bool false] c) 4)) := by
  obtain ⟨i0, hi, hz0, hz1, hz2⟩ := info_parts' info_bool
  have h := run_make (P := Try.prog) w 49 4 i0 (.bool false) Try.underlying49 hi hz0 .i64 .i64 (c : Int) (c : Int) (by omega) (by omega) (by rw [hz2]; omega) (by omega)
  rw [h, hz1]
  simp
  rfl
/-- What the owners below u have. -/
def sumC (n : Nat) (T O : Nat → Nat) : Nat → Nat
  | 0 => 0
  | u + 1 => sumC n T O u + ownC n T O u
theorem sumC_is (T O : Nat → Nat) (u : Nat) : ∀ n, sumC n T O u = cn (fun j => decide (0 < T j ∧ O j < u)) n := by
  intro n
  induction u with
  | zero => exact (cn_none fun i _ => by simp).symm
  | succ u ih =>
    show sumC n T O u + ownC n T O u = _
    rw [ih]
    unfold ownC
    clear ih
    induction n with
    | zero => rfl
    | succ n ih =>
      unfold cn
      rw [← ih]
      by_cases h : 0 < T n
      · by_cases h1 : O n < u
        · simp [h, h1, show ¬ O n = u by omega, show O n < u + 1 by omega]; omega
        · by_cases h2 : O n = u
          · simp [h, h2]; omega
          · simp [h, h1, h2, show ¬ O n < u + 1 by omega]
      · simp [h]
theorem sumC_all {n : Nat} {T O : Nat → Nat} (h : ∀ j, j < n → 0 < T j → O j < 17) : sumC n T O 17 = heldC n T := by
  rw [sumC_is]
  exact cn_congr fun i hi => by
    by_cases h1 : 0 < T i
    · simp [h1, h i hi h1]
    · simp [h1]
theorem listC_getD_mem {T O : Nat → Nat} {o n k : Nat} (hk : k < (listC T O o n).length) : (listC T O o n)[k]? = some ((listC T O o n).getD k 0) := by
  rw [List.getD_eq_getElem?_getD, List.getElem?_eq_getElem hk]; rfl
theorem listC_nodup (T O : Nat → Nat) (o n : Nat) : (listC T O o n).Nodup := List.Pairwise.filter _ List.nodup_range
end Go.Proofs.Ytbiadhgkpggdeaa
