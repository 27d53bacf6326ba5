/- What the functions of the reference of the package ticket compute. -/
import Derived.Test.YtbiadhgkpggdeaaDoorTick
import Derived.Test.YtbiadhgkpggdeaaDoorRMem
import Derived.StillTailTactics
import Derived.Deep.RegionHeld3
namespace Go.Proofs.YtbiadhgkpggdeaaDoor
open Go Go.RowKit
set_option linter.unusedSimpArgs false
set_option linter.unusedVariables false
/-- n numbers. -/
def Nums (w : World) (q n : Nat) (k : IntKind) (F : Nat → Nat) : Prop := ∃ cs t, Row w q cs t ∧ cs.size = n ∧ ∀ i, i < n → cs[i]? = some (.int k (F i : Nat))
theorem Nums.chg {S : List Nat} {w w' : World} {q n : Nat} {k : IntKind} {F : Nat → Nat} (h : Nums w q n k F) (hc : Chg S w w') (hq : q ∉ S) : Nums w' q n k F := by
  obtain ⟨cs, t, hr, hl, hx⟩ := h
  exact ⟨cs, t, hr.chg hc hq, hl, hx⟩
theorem Nums.cell {w : World} {q n i : Nat} {k : IntKind} {F : Nat → Nat} (h : Nums w q n k F) (hi : i < n) : w.cell? ⟨q, i, none⟩ = some (.int k (F i : Nat)) := by
  obtain ⟨cs, t, hr, hl, hx⟩ := h
  rw [hr.cell]; exact hx i hi
theorem Nums.frozen {w : World} {q n : Nat} {k : IntKind} {F : Nat → Nat} (h : Nums w q n k F) (j : Nat) : w.frozen? ⟨q, j, none⟩ = false := by
  obtain ⟨cs, t, hr, hl, hx⟩ := h
  exact hr.frozen j
theorem Nums.lt {w : World} {q n : Nat} {k : IntKind} {F : Nat → Nat} (h : Nums w q n k F) : q < w.heap.size := by
  obtain ⟨cs, t, hr, hl, hx⟩ := h
  exact hr.lt
theorem Nums.set {w : World} {q n i : Nat} {k : IntKind} {F : Nat → Nat} (h : Nums w q n k F) (hi : i < n) (s : Nat) : Nums (w.setCell ⟨q, i, none⟩ (.int k (s : Nat))) q n k (updN F i s) := by
  obtain ⟨cs, t, hr, hl, hx⟩ := h
  refine ⟨_, t, hr.setCell (i := i) (by omega) _, by simpa using hl, fun j hj => ?_⟩
  rw [Array.getElem?_set]
  unfold updN
  by_cases e : j = i
  · subst e
    rw [if_pos rfl, if_pos rfl]
  · rw [if_neg (by omega), if_neg e]
    exact hx j hj
theorem Nums.made (w : World) (n : Nat) (k : IntKind) (t : TypeId) : Nums (w.alloc (.cells (madeCells #[.int k 0] n) t)) w.heap.size n k (fun _ => 0) :=
  ⟨_, t, Row.new _ _ _, by rw [size_madeCells], fun i hi => madeCells_at _ n hi⟩
/-- The reference's lock and its memory. -/
structure RReady (w : World) (rl rp rq N A qs qt n : Nat) (B S T : Nat → Nat) : Prop where
  hd : Row w rl #[.pointer (some ⟨rp, 0, none⟩), .int .u64 A, .slice (some ⟨qs, 0, none⟩) n n, .slice (some ⟨qt, 0, none⟩) n n] 65
  st : Nums w qs n .i64 S
  tk : Nums w qt n .u64 T
  m : RMem w rp rq N B
  n1 : 1 ≤ n
  n8 : n ≤ 8
  a8 : A % 8 = 0
  aN : A + 16 ≤ N
  ne : rl ≠ qs ∧ rl ≠ qt ∧ rl ≠ rq ∧ qs ≠ qt ∧ qs ≠ rq ∧ qs ≠ rp ∧ qt ≠ rq ∧ qt ≠ rp
theorem RReady.chg {S' : List Nat} {w w' : World} {rl rp rq N A qs qt n : Nat} {B S T : Nat → Nat} (h : RReady w rl rp rq N A qs qt n B S T) (hc : Chg S' w w') (h1 : rl ∉ S' ∧ qs ∉ S' ∧ qt ∉ S' ∧ rp ∉ S' ∧ rq ∉ S') : RReady w' rl rp rq N A qs qt n B S T :=
  ⟨h.hd.chg hc h1.1, h.st.chg hc h1.2.1, h.tk.chg hc h1.2.2.1, h.m.chg hc h1.2.2.2.1 h1.2.2.2.2, h.n1, h.n8, h.a8, h.aN, h.ne⟩
theorem RReady.grows {w w' : World} {rl rp rq N A qs qt n : Nat} {B S T : Nat → Nat} (h : RReady w rl rp rq N A qs qt n B S T) (hg : Grows w w') : RReady w' rl rp rq N A qs qt n B S T := h.chg (S' := []) (Chg.of_grows hg) (by simp)
theorem RReady.mem {w w' : World} {rl rp rq N A qs qt n : Nat} {B S T C : Nat → Nat} (h : RReady w rl rp rq N A qs qt n B S T) (hM : RMem w' rp rq N C) (hc : Chg [rq] w w') : RReady w' rl rp rq N A qs qt n C S T := by
  have := h.ne
  exact ⟨h.hd.chg hc (by simp; omega), h.st.chg hc (by simp; omega), h.tk.chg hc (by simp; omega), hM, h.n1, h.n8, h.a8, h.aN, h.ne⟩
theorem RReady.setS {w : World} {rl rp rq N A qs qt n i : Nat} {B S T : Nat → Nat} (h : RReady w rl rp rq N A qs qt n B S T) (hi : i < n) (s : Nat) : RReady (w.setCell ⟨qs, i, none⟩ (.int .i64 (s : Nat))) rl rp rq N A qs qt n B (updN S i s) T := by
  have hc : Chg [qs] w (w.setCell ⟨qs, i, none⟩ (.int .i64 (s : Nat))) := (Chg.refl _ _).setCell (Or.inl (by simp)) _ _
  have := h.ne
  exact ⟨h.hd.chg hc (by simp; omega), h.st.set hi s, h.tk.chg hc (by simp; omega), h.m.chg hc (by simp; omega) (by simp; omega), h.n1, h.n8, h.a8, h.aN, h.ne⟩
theorem RReady.setT {w : World} {rl rp rq N A qs qt n i : Nat} {B S T : Nat → Nat} (h : RReady w rl rp rq N A qs qt n B S T) (hi : i < n) (s : Nat) : RReady (w.setCell ⟨qt, i, none⟩ (.int .u64 (s : Nat))) rl rp rq N A qs qt n B S (updN T i s) := by
  have hc : Chg [qt] w (w.setCell ⟨qt, i, none⟩ (.int .u64 (s : Nat))) := (Chg.refl _ _).setCell (Or.inl (by simp)) _ _
  have := h.ne
  exact ⟨h.hd.chg hc (by simp; omega), h.st.chg hc (by simp; omega), h.tk.set hi s, h.m.chg hc (by simp; omega) (by simp; omega), h.n1, h.n8, h.a8, h.aN, h.ne⟩
theorem RReady.cells {w : World} {rl rp rq N A qs qt n : Nat} {B S T : Nat → Nat} (h : RReady w rl rp rq N A qs qt n B S T) :
    w.cell? ⟨rl, 0, none⟩ = some (.pointer (some ⟨rp, 0, none⟩)) ∧ w.cell? ⟨rl, 1, none⟩ = some (.int .u64 A) ∧ w.cell? ⟨rl, 2, none⟩ = some (.slice (some ⟨qs, 0, none⟩) n n) ∧ w.cell? ⟨rl, 3, none⟩ = some (.slice (some ⟨qt, 0, none⟩) n n) := ⟨h.hd.cell 0, h.hd.cell 1, h.hd.cell 2, h.hd.cell 3⟩
theorem Has_any {w : World} {rl rp rq N A qs qt n : Nat} {B S T : Nat → Nat} (h : RReady w rl rp rq N A qs qt n B S T) (i : Int) :
    Calls Tryd.prog 22 #[.pointer (some ⟨rl, 0, none⟩), .int .i64 i] w fun r w' => r = .returned (.bool (decide (0 ≤ i ∧ i < n))) ∧ w' = w := by
  obtain ⟨c0, c1, c2, c3⟩ := h.cells
  have hn8 := h.n8
  clear h
  by_cases h0 : 0 ≤ i
  · by_cases h1 : i < n
    · have e : decide (0 ≤ i ∧ i < n) = true := decide_eq_true ⟨h0, h1⟩
      rw [e]
      clear e
      have d : decide (i < (n : Int)) = true := decide_eq_true h1
      go_enter Tryd.func22, Tryd.ntmps22
      go_wp2_with fail
      go_ret
      exact ⟨rfl, rfl⟩
    · have e : decide (0 ≤ i ∧ i < n) = false := decide_eq_false (fun h => h1 h.2)
      rw [e]
      clear e
      have d : decide (i < (n : Int)) = false := decide_eq_false h1
      go_enter Tryd.func22, Tryd.ntmps22
      go_wp2_with fail
      go_ret
      exact ⟨rfl, rfl⟩
  · have e : decide (0 ≤ i ∧ i < n) = false := decide_eq_false (fun h => h0 h.1)
    rw [e]
    clear e
    have d : decide (0 ≤ i) = false := decide_eq_false h0
    go_enter Tryd.func22, Tryd.ntmps22
    go_wp2_with fail
    go_ret
    exact ⟨rfl, rfl⟩
theorem Has_yes {w : World} {rl rp rq N A qs qt n i : Nat} {B S T : Nat → Nat} (h : RReady w rl rp rq N A qs qt n B S T) (hi : i < n) :
    Calls Tryd.prog 22 #[.pointer (some ⟨rl, 0, none⟩), .int .i64 i] w fun r w' => r = .returned (.bool true) ∧ w' = w := by
  have := Has_any h (i : Int)
  rwa [show decide ((0 : Int) ≤ i ∧ (i : Int) < n) = true from decide_eq_true (by omega)] at this
theorem Has_no {w : World} {rl rp rq N A qs qt n : Nat} {i : Int} {B S T : Nat → Nat} (h : RReady w rl rp rq N A qs qt n B S T) (hi : i < 0 ∨ (n : Int) ≤ i) :
    Calls Tryd.prog 22 #[.pointer (some ⟨rl, 0, none⟩), .int .i64 i] w fun r w' => r = .returned (.bool false) ∧ w' = w := by
  have := Has_any h (i : Int)
  rwa [show decide ((0 : Int) ≤ i ∧ (i : Int) < n) = false from decide_eq_false (by omega)] at this
theorem Set_bad {w : World} {rl rp rq N A qs qt n : Nat} {i a b : Int} {B S T : Nat → Nat} (h : RReady w rl rp rq N A qs qt n B S T) (hi : i < 0 ∨ (n : Int) ≤ i) :
    Calls Tryd.prog 18 #[.pointer (some ⟨rl, 0, none⟩), .int .i64 i, .int .i64 a, .int .i64 b] w fun r w' => r = .returned (.int .i64 2) ∧ w' = w := by
  have hh := Has_no h hi
  clear h hi
  go_enter Tryd.func18, Tryd.ntmps18
  go_wp2_with fail
  refine hh.mono ?_
  rintro _ _ ⟨rfl, hw⟩
  rw [hw]
  clear hw
  go_wp2_with fail
  go_ret
  exact ⟨rfl, rfl⟩
theorem Set_any {w : World} {rl rp rq N A qs qt n i a b : Nat} {B S T : Nat → Nat} (h : RReady w rl rp rq N A qs qt n B S T) (hi : i < n) :
    Calls Tryd.prog 18 #[.pointer (some ⟨rl, 0, none⟩), .int .i64 i, .int .i64 a, .int .i64 b] w fun r w' => r = .returned (.int .i64 (if S i = a then 0 else 21)) ∧ RReady w' rl rp rq N A qs qt n B (if S i = a then updN S i b else S) T ∧ Chg [qs] w w' := by
  have hh := Has_yes h hi
  obtain ⟨c0, c1, c2, c3⟩ := h.cells
  have cs := h.st.cell hi
  have f1 := h.st.frozen i
  have hn8 := h.n8
  have HH := Lib.hid h
  clear h
  by_cases e : S i = a
  · rw [if_pos e, if_pos e]
    rw [e] at cs
    clear e
    go_enter Tryd.func18, Tryd.ntmps18
    go_wp2_with fail
    refine hh.mono ?_
    rintro _ _ ⟨rfl, hw⟩
    rw [hw]
    clear hw
    go_wp2_with fail
    go_ret
    exact ⟨rfl, HH.out.setS hi b, (Chg.refl _ _).setCell (Or.inl (by simp)) _ _⟩
  · rw [if_neg e, if_neg e]
    have hb : ((S i : Int) != (a : Int)) = true := by simp; omega
    clear e
    generalize S i = X at *
    go_enter Tryd.func18, Tryd.ntmps18
    go_wp2_with fail
    refine hh.mono ?_
    rintro _ _ ⟨rfl, hw⟩
    rw [hw]
    clear hw
    go_wp2_with fail
    go_ret
    exact ⟨rfl, HH.out, Chg.refl _ _⟩
end Go.Proofs.YtbiadhgkpggdeaaDoor
