/- What the functions of the package ticket compute. -/
import Derived.Test.YtbiadhgkpggdeaaDoorMem
namespace Go.Proofs.YtbiadhgkpggdeaaDoor
open Go Go.RowKit
set_option linter.unusedSimpArgs false
set_option linter.unusedVariables false
/-- The table of states that follow lies where the program's text lays it. -/
def Follows (w : World) : Prop := 0 < w.heap.size ∧ ∀ i, w.cell? ⟨0, i, none⟩ = #[Value.int .i64 0, .int .i64 2, .int .i64 3, .int .i64 3, .int .i64 0][i]?
theorem Follows.grows {w w' : World} (h : Follows w) (hg : Grows w w') : Follows w' := ⟨hg.lt h.1, fun i => by rw [hg.cell h.1]; exact h.2 i⟩
theorem Follows.chg {S : List Nat} {w w' : World} (h : Follows w) (hc : Chg S w w') (hS : 0 ∉ S) : Follows w' := ⟨hc.lt h.1, fun i => by rw [hc.cell h.1 hS]; exact h.2 i⟩
theorem Widths.chg {S : List Nat} {w w' : World} (h : Widths w) (hc : Chg S w w') (hS : 1 ∉ S) : Widths w' := ⟨hc.lt h.1, fun i => by rw [hc.cell h.1 hS]; exact h.2 i⟩
def updN (f : Nat → Nat) (i v : Nat) : Nat → Nat := fun j => if j = i then v else f j
/-- n cores, each with a state and a ticket. -/
def CoresAt (w : World) (qc n : Nat) (S T : Nat → Nat) : Prop :=
  ∃ cs t, Row w qc cs t ∧ cs.size = n * 2 ∧ ∀ i, i < n → cs[i * 2]? = some (.int .i64 (S i : Nat)) ∧ cs[i * 2 + 1]? = some (.int .u64 (T i : Nat))
theorem CoresAt.chg {S' : List Nat} {w w' : World} {qc n : Nat} {S T : Nat → Nat} (h : CoresAt w qc n S T) (hc : Chg S' w w') (hq : qc ∉ S') : CoresAt w' qc n S T := by
  obtain ⟨cs, t, hr, hl, hx⟩ := h
  exact ⟨cs, t, hr.chg hc hq, hl, hx⟩
theorem CoresAt.state {w : World} {qc n i : Nat} {S T : Nat → Nat} (h : CoresAt w qc n S T) (hi : i < n) : w.cell? ⟨qc, i * 2, none⟩ = some (.int .i64 (S i : Nat)) := by
  obtain ⟨cs, t, hr, hl, hx⟩ := h
  rw [hr.cell]; exact (hx i hi).1
theorem CoresAt.tick {w : World} {qc n i : Nat} {S T : Nat → Nat} (h : CoresAt w qc n S T) (hi : i < n) : w.cell? ⟨qc, i * 2 + 1, none⟩ = some (.int .u64 (T i : Nat)) := by
  obtain ⟨cs, t, hr, hl, hx⟩ := h
  rw [hr.cell]; exact (hx i hi).2
theorem CoresAt.frozen {w : World} {qc n : Nat} {S T : Nat → Nat} (h : CoresAt w qc n S T) (j : Nat) : w.frozen? ⟨qc, j, none⟩ = false := by
  obtain ⟨cs, t, hr, hl, hx⟩ := h
  exact hr.frozen j
theorem CoresAt.lt {w : World} {qc n : Nat} {S T : Nat → Nat} (h : CoresAt w qc n S T) : qc < w.heap.size := by
  obtain ⟨cs, t, hr, hl, hx⟩ := h
  exact hr.lt
theorem CoresAt.setS {w : World} {qc n i : Nat} {S T : Nat → Nat} (h : CoresAt w qc n S T) (hi : i < n) (s : Nat) : CoresAt (w.setCell ⟨qc, i * 2, none⟩ (.int .i64 (s : Nat))) qc n (updN S i s) T := by
  obtain ⟨cs, t, hr, hl, hx⟩ := h
  refine ⟨_, t, hr.setCell (i := i * 2) (by omega) _, by simpa using hl, fun j hj => ?_⟩
  rw [Array.getElem?_set, Array.getElem?_set]
  unfold updN
  by_cases e : j = i
  · subst e
    rw [if_pos rfl, if_pos rfl, if_neg (by omega)]
    exact ⟨rfl, (hx j hj).2⟩
  · rw [if_neg (by omega), if_neg e, if_neg (by omega)]
    exact hx j hj
theorem CoresAt.setT {w : World} {qc n i : Nat} {S T : Nat → Nat} (h : CoresAt w qc n S T) (hi : i < n) (s : Nat) : CoresAt (w.setCell ⟨qc, i * 2 + 1, none⟩ (.int .u64 (s : Nat))) qc n S (updN T i s) := by
  obtain ⟨cs, t, hr, hl, hx⟩ := h
  refine ⟨_, t, hr.setCell (i := i * 2 + 1) (by omega) _, by simpa using hl, fun j hj => ?_⟩
  rw [Array.getElem?_set, Array.getElem?_set]
  unfold updN
  by_cases e : j = i
  · subst e
    rw [if_pos rfl, if_pos rfl, if_neg (by omega)]
    exact ⟨(hx j hj).1, rfl⟩
  · rw [if_neg (by omega), if_neg (by omega), if_neg e]
    exact hx j hj
/-- A lock of n cores at the address A of the memory p. -/
structure LockAt (w : World) (pl p A qc n : Nat) (S T : Nat → Nat) : Prop where
  hd : Row w pl #[.pointer (some ⟨p, 0, none⟩), .int .u64 A, .slice (some ⟨qc, 0, none⟩) n n] 40
  cr : CoresAt w qc n S T
  hn : n ≤ 8
  h1 : 1 ≤ n
  hS : ∀ i, i < n → S i ≤ 4
theorem LockAt.ne {w : World} {pl p A qc n : Nat} {S T : Nat → Nat} (h : LockAt w pl p A qc n S T) : pl ≠ qc := by
  intro e
  have h1 := h.cr.state (i := 0) (by have := h.h1; omega)
  rw [← e, h.hd.cell] at h1
  simp at h1
theorem LockAt.chg {S' : List Nat} {w w' : World} {pl p A qc n : Nat} {S T : Nat → Nat} (h : LockAt w pl p A qc n S T) (hc : Chg S' w w') (hp : pl ∉ S') (hq : qc ∉ S') : LockAt w' pl p A qc n S T :=
  ⟨h.hd.chg hc hp, h.cr.chg hc hq, h.hn, h.h1, h.hS⟩
theorem LockAt.grows {w w' : World} {pl p A qc n : Nat} {S T : Nat → Nat} (h : LockAt w pl p A qc n S T) (hg : Grows w w') : LockAt w' pl p A qc n S T := h.chg (S' := []) (Chg.of_grows hg) (by simp) (by simp)
theorem LockAt.lt {w : World} {pl p A qc n : Nat} {S T : Nat → Nat} (h : LockAt w pl p A qc n S T) : pl < w.heap.size ∧ qc < w.heap.size := ⟨h.hd.lt, h.cr.lt⟩
theorem LockAt.setS {w : World} {pl p A qc n i s : Nat} {S T : Nat → Nat} (h : LockAt w pl p A qc n S T) (hi : i < n) (hs : s ≤ 4) : LockAt (w.setCell ⟨qc, i * 2, none⟩ (.int .i64 (s : Nat))) pl p A qc n (updN S i s) T :=
  ⟨h.hd.setOther (fun e => h.ne e.symm) _, h.cr.setS hi s, h.hn, h.h1, fun j hj => by unfold updN; split; exact hs; exact h.hS j hj⟩
theorem LockAt.setT {w : World} {pl p A qc n i s : Nat} {S T : Nat → Nat} (h : LockAt w pl p A qc n S T) (hi : i < n) : LockAt (w.setCell ⟨qc, i * 2 + 1, none⟩ (.int .u64 (s : Nat))) pl p A qc n S (updN T i s) :=
  ⟨h.hd.setOther (fun e => h.ne e.symm) _, h.cr.setT hi s, h.hn, h.h1, h.hS⟩
theorem LockAt.cells {w : World} {pl p A qc n : Nat} {S T : Nat → Nat} (h : LockAt w pl p A qc n S T) :
    w.cell? ⟨pl, 0, none⟩ = some (.pointer (some ⟨p, 0, none⟩)) ∧ w.cell? ⟨pl, 1, none⟩ = some (.int .u64 A) ∧ w.cell? ⟨pl, 2, none⟩ = some (.slice (some ⟨qc, 0, none⟩) n n) := ⟨h.hd.cell 0, h.hd.cell 1, h.hd.cell 2⟩
theorem of_ok {w : World} {pl p A qc n i : Nat} {S T : Nat → Nat} (h : LockAt w pl p A qc n S T) (hi : i < n) :
    Calls Tryd.prog 27 #[.pointer (some ⟨pl, 0, none⟩), .int .i64 i] w fun r w' => r = .returned (.tuple #[.pointer (some ⟨qc, i * 2, none⟩), .int .i64 0]) ∧ w' = w := by
  obtain ⟨c0, c1, c2⟩ := h.cells
  have hn8 := h.hn
  have d : decide ((n : Int) ≤ (i : Int)) = false := decide_eq_false (by omega)
  clear h
  go_enter Tryd.func27, Tryd.ntmps27
  go_wp2_with fail
  go_ret2
  exact ⟨by simp, rfl⟩
theorem of_bad {w : World} {pl p A qc n : Nat} {i : Int} {S T : Nat → Nat} (h : LockAt w pl p A qc n S T) (hi : i < 0 ∨ n ≤ i) :
    Calls Tryd.prog 27 #[.pointer (some ⟨pl, 0, none⟩), .int .i64 i] w fun r w' => r = .returned (.tuple #[.pointer none, .int .i64 2]) ∧ w' = w := by
  obtain ⟨c0, c1, c2⟩ := h.cells
  clear h
  by_cases h0 : i < 0
  · clear hi
    go_enter Tryd.func27, Tryd.ntmps27
    go_wp2_with fail
    go_ret2
    exact ⟨rfl, rfl⟩
  · have h1 : (n : Int) ≤ i := by omega
    have d0 : decide (i < 0) = false := decide_eq_false h0
    have d : decide ((n : Int) ≤ i) = true := decide_eq_true h1
    clear hi
    go_enter Tryd.func27, Tryd.ntmps27
    go_wp2_with fail
    go_ret2
    exact ⟨rfl, rfl⟩
/-- nil, or a struct that is all zero. -/
def NoLock (w : World) (v : Option Addr) : Prop := v = none ∨ ∃ p, v = some ⟨p, 0, none⟩ ∧ Row w p #[.pointer none, .int .u64 0, .slice none 0 0] 40
theorem NoLock.grows {w w' : World} {v : Option Addr} (h : NoLock w v) (hg : Grows w w') : NoLock w' v := by
  rcases h with h | ⟨p, h, hr⟩
  · exact Or.inl h
  · exact Or.inr ⟨p, h, hr.grows hg⟩
theorem of_nob {w : World} {v : Option Addr} (h : NoLock w v) (i : Int) :
    Calls Tryd.prog 27 #[.pointer v, .int .i64 i] w fun r w' => r = .returned (.tuple #[.pointer none, .int .i64 1]) ∧ w' = w := by
  rcases h with rfl | ⟨p, rfl, hr⟩
  · go_enter Tryd.func27, Tryd.ntmps27
    go_wp2_with fail
    go_ret2
    exact ⟨rfl, rfl⟩
  · have c0 : w.cell? ⟨p, 0, none⟩ = some (.pointer none) := hr.cell 0
    go_enter Tryd.func27, Tryd.ntmps27
    go_wp2_with fail
    go_ret2
    exact ⟨rfl, rfl⟩
theorem begin_ok {w : World} {pl p A qc n i s : Nat} {S T : Nat → Nat} (h : LockAt w pl p A qc n S T) (hi : i < n) (hs : s ≤ 4) :
    Calls Tryd.prog 26 #[.pointer (some ⟨pl, 0, none⟩), .int .i64 i, .int .i64 (S i : Nat), .int .i64 s] w fun r w' => r = .returned (.int .i64 0) ∧ LockAt w' pl p A qc n (updN S i s) T ∧ Chg [qc] w w' := by
  have hof := of_ok h hi
  have c1 := h.cr.state hi
  have f1 := h.cr.frozen (i * 2)
  have l1 := h.cr.lt
  have HL := Lib.hid h
  generalize S i = X at *
  clear h
  go_enter Tryd.func26, Tryd.ntmps26
  go_wp2_with fail
  refine hof.mono ?_
  rintro _ _ ⟨rfl, hw⟩
  rw [hw]
  clear hw
  go_wp2_with fail
  go_ret
  exact ⟨rfl, HL.out.setS hi hs, (Chg.refl _ _).setCell (Or.inl (by simp)) _ _⟩
theorem begin_no {w : World} {pl p A qc n i a : Nat} {b : Int} {S T : Nat → Nat} (h : LockAt w pl p A qc n S T) (hi : i < n) (ha : S i ≠ a) :
    Calls Tryd.prog 26 #[.pointer (some ⟨pl, 0, none⟩), .int .i64 i, .int .i64 a, .int .i64 b] w fun r w' => r = .returned (.int .i64 21) ∧ w' = w := by
  have hof := of_ok h hi
  have c1 := h.cr.state hi
  have e : ((S i : Int) != (a : Int)) = true := by simp; omega
  generalize S i = X at *
  clear h
  go_enter Tryd.func26, Tryd.ntmps26
  go_wp2_with fail
  refine hof.mono ?_
  rintro _ _ ⟨rfl, hw⟩
  rw [hw]
  clear hw
  go_wp2_with fail
  go_ret
  exact ⟨rfl, rfl⟩
theorem begin_bad {w : World} {v : Option Addr} {i a b e : Int} (he : e ≠ 0) (hof : Calls Tryd.prog 27 #[.pointer v, .int .i64 i] w fun r w' => r = .returned (.tuple #[.pointer none, .int .i64 e]) ∧ w' = w) :
    Calls Tryd.prog 26 #[.pointer v, .int .i64 i, .int .i64 a, .int .i64 b] w fun r w' => r = .returned (.int .i64 e) ∧ w' = w := by
  have hb : (e != 0) = true := by simp [he]
  go_enter Tryd.func26, Tryd.ntmps26
  go_wp2_with fail
  refine hof.mono ?_
  rintro _ _ ⟨rfl, hw⟩
  rw [hw]
  clear hw
  go_wp2_with fail
  go_ret
  exact ⟨rfl, rfl⟩
/-- A number of eight bytes in the memory. -/
def numB (B : Nat → Nat) (X : Nat) : Nat := loadN (segB B X 8)
def inc64 (v : Nat) : Nat := (v + 1) % 18446744073709551616
theorem inc64_wrap (v : Nat) : IntKind.u64.wrap ((v : Int) + 1) = (inc64 v : Nat) := by
  rw [IntKind.wrap_u64]; unfold inc64; omega
theorem inc64_mod (v : Nat) : ((v : Int) + 1) % 18446744073709551616 = (inc64 v : Nat) := by
  unfold inc64; omega
theorem inc64_lt (v : Nat) : inc64 v < 18446744073709551616 := Nat.mod_lt _ (by decide)
def incB (B : Nat → Nat) (X : Nat) : Nat → Nat := putB B X (leB (inc64 (numB B X)) 8)
theorem grow_any {w : World} {pl p q N A qc n X : Nat} {B : Nat → Nat} {S T : Nat → Nat} (hT : Widths w) (h : LockAt w pl p A qc n S T) (hM : Mem w p q N B) (hX8 : X % 8 = 0) (hXN : X + 8 ≤ N) (hpl : pl ≠ q) :
    Calls Tryd.prog 28 #[.pointer (some ⟨pl, 0, none⟩), .int .u64 X] w fun r w' => r = .returned (.int .u64 (numB B X : Nat)) ∧ Mem w' p q N (incB B X) ∧ Chg [q] w w' := by
  obtain ⟨c0, c1, c2⟩ := h.cells
  have lpl := h.lt.1
  have hl := Load_ok hT hM X 8 rfl hX8 hXN
  have hs := fun w' (hg : Grows w w') => Store_ok (hT.grows hg) (hM.grows hg) X 8 (inc64 (loadN (segB B X 8))) rfl hX8 hXN
  have e1 := inc64_wrap (loadN (segB B X 8))
  have e2 := inc64_mod (loadN (segB B X 8))
  unfold incB numB
  generalize loadN (segB B X 8) = v at *
  generalize inc64 v = u at *
  have E1 := Lib.hid e1
  have E2 := Lib.hid e2
  have HX := Lib.hid hX8
  have HH := Lib.hid h
  clear e1 e2 h hM hX8
  go_enter Tryd.func28, Tryd.ntmps28
  go_wp2_with fail
  refine hl.mono ?_
  rintro _ w1 ⟨rfl, hg1⟩
  obtain ⟨d0, d1, d2⟩ := (HH.out.grows hg1).cells
  go_wp2_with fail
  rw [E1.out]
  refine (hs _ hg1).mono ?_
  rintro _ w2 ⟨rfl, hM2, hC2⟩
  go_wp2_with fail
  go_ret
  exact ⟨rfl, hM2, (Chg.of_grows hg1).trans hC2⟩
/-- What lies where for a step. -/
structure Ready (w : World) (pl p q N A qc n : Nat) (B : Nat → Nat) (S T : Nat → Nat) : Prop where
  l : LockAt w pl p A qc n S T
  m : Mem w p q N B
  a8 : A % 8 = 0
  aN : A + 16 ≤ N
  ne : pl ≠ q ∧ qc ≠ q ∧ qc ≠ p
  hW : Widths w
  hF : Follows w
  gq : 0 ≠ q ∧ 0 ≠ qc ∧ 1 ≠ q ∧ 1 ≠ qc
theorem Ready.grows {w w' : World} {pl p q N A qc n : Nat} {B : Nat → Nat} {S T : Nat → Nat} (h : Ready w pl p q N A qc n B S T) (hg : Grows w w') : Ready w' pl p q N A qc n B S T :=
  ⟨h.l.grows hg, h.m.grows hg, h.a8, h.aN, h.ne, h.hW.grows hg, h.hF.grows hg, h.gq⟩
/-- The memory turned. -/
theorem Ready.mem {w w' : World} {pl p q N A qc n : Nat} {B C : Nat → Nat} {S T : Nat → Nat} (h : Ready w pl p q N A qc n B S T) (hM : Mem w' p q N C) (hc : Chg [q] w w') : Ready w' pl p q N A qc n C S T :=
  ⟨h.l.chg hc (by simpa using h.ne.1) (by simpa using h.ne.2.1), hM, h.a8, h.aN, h.ne, Widths.chg h.hW hc (by simpa using h.gq.2.2.1), Follows.chg h.hF hc (by simpa using h.gq.1), h.gq⟩
/-- The cores turned. -/
theorem Ready.cores {w w' : World} {pl p q N A qc n : Nat} {B : Nat → Nat} {S T S' T' : Nat → Nat} (h : Ready w pl p q N A qc n B S T) (hL : LockAt w' pl p A qc n S' T') (hc : Chg [qc] w w') : Ready w' pl p q N A qc n B S' T' :=
  ⟨hL, h.m.chg hc (by have := h.ne.2.2; simp; omega) (by have := h.ne.2.1; simp; omega), h.a8, h.aN, h.ne, Widths.chg h.hW hc (by simpa using h.gq.2.2.2), Follows.chg h.hF hc (by simpa using h.gq.2.1), h.gq⟩
theorem Ready.setS {w : World} {pl p q N A qc n i s : Nat} {B : Nat → Nat} {S T : Nat → Nat} (h : Ready w pl p q N A qc n B S T) (hi : i < n) (hs : s ≤ 4) : Ready (w.setCell ⟨qc, i * 2, none⟩ (.int .i64 (s : Nat))) pl p q N A qc n B (updN S i s) T :=
  h.cores (h.l.setS hi hs) ((Chg.refl _ _).setCell (Or.inl (by simp)) _ _)
theorem Ready.setT {w : World} {pl p q N A qc n i s : Nat} {B : Nat → Nat} {S T : Nat → Nat} (h : Ready w pl p q N A qc n B S T) (hi : i < n) : Ready (w.setCell ⟨qc, i * 2 + 1, none⟩ (.int .u64 (s : Nat))) pl p q N A qc n B S (updN T i s) :=
  h.cores (h.l.setT hi) ((Chg.refl _ _).setCell (Or.inl (by simp)) _ _)
set_option maxRecDepth 100000 in
theorem step_0 {w : World} {pl p q N A qc n i : Nat} {B : Nat → Nat} {S T : Nat → Nat} (h : Ready w pl p q N A qc n B S T) (hi : i < n) (hs : S i = 0) :
    Calls Tryd.prog 11 #[.pointer (some ⟨pl, 0, none⟩), .int .i64 i] w fun r w' => r = .returned (.tuple #[.int .i64 0, .int .i64 0]) ∧ Ready w' pl p q N A qc n B (updN S i 0) T ∧ Chg [qc, q] w w' := by
  have hof := of_ok h.l hi
  have c1 := h.l.cr.state hi
  rw [hs] at c1
  have f1 := h.l.cr.frozen (i * 2)
  have l1 := h.l.cr.lt
  have g1 := h.hF.2 0
  have HH := Lib.hid h
  have HS := Lib.hid hs
  clear h hs
  go_enter Tryd.func11, Tryd.ntmps11
  go_wp2_with fail
  refine hof.mono ?_
  rintro _ _ ⟨rfl, hw⟩
  rw [hw]
  clear hw
  go_wp2_with fail
  go_ret2
  exact ⟨rfl, HH.out.setS (s := 0) hi (by omega), (Chg.refl _ _).setCell (Or.inl (by simp)) _ _⟩
set_option maxRecDepth 100000 in
theorem step_3 {w : World} {pl p q N A qc n i : Nat} {B : Nat → Nat} {S T : Nat → Nat} (h : Ready w pl p q N A qc n B S T) (hi : i < n) (hs : S i = 3) :
    Calls Tryd.prog 11 #[.pointer (some ⟨pl, 0, none⟩), .int .i64 i] w fun r w' => r = .returned (.tuple #[.int .i64 3, .int .i64 0]) ∧ Ready w' pl p q N A qc n B (updN S i 3) T ∧ Chg [qc, q] w w' := by
  have hof := of_ok h.l hi
  have c1 := h.l.cr.state hi
  rw [hs] at c1
  have f1 := h.l.cr.frozen (i * 2)
  have l1 := h.l.cr.lt
  have g1 := h.hF.2 3
  have HH := Lib.hid h
  have HS := Lib.hid hs
  clear h hs
  go_enter Tryd.func11, Tryd.ntmps11
  go_wp2_with fail
  refine hof.mono ?_
  rintro _ _ ⟨rfl, hw⟩
  rw [hw]
  clear hw
  go_wp2_with fail
  go_ret2
  exact ⟨rfl, HH.out.setS (s := 3) hi (by omega), (Chg.refl _ _).setCell (Or.inl (by simp)) _ _⟩
set_option maxRecDepth 100000 in
theorem step_1 {w : World} {pl p q N A qc n i : Nat} {B : Nat → Nat} {S T : Nat → Nat} (h : Ready w pl p q N A qc n B S T) (hi : i < n) (hs : S i = 1) :
    Calls Tryd.prog 11 #[.pointer (some ⟨pl, 0, none⟩), .int .i64 i] w fun r w' => r = .returned (.tuple #[.int .i64 2, .int .i64 0]) ∧ Ready w' pl p q N A qc n (incB B A) (updN S i 2) (updN T i (numB B A)) ∧ Chg [qc, q] w w' := by
  obtain ⟨d0, d1, d2⟩ := h.l.cells
  have hgr := grow_any h.hW h.l h.m h.a8 (by have := h.aN; omega) h.ne.1
  generalize numB B A = V at *
  generalize incB B A = C at *
  have hof := of_ok h.l hi
  have c1 := h.l.cr.state hi
  rw [hs] at c1
  have f1 := h.l.cr.frozen (i * 2)
  have l1 := h.l.cr.lt
  have g1 := h.hF.2 2
  have HH := Lib.hid h
  have HS := Lib.hid hs
  clear h hs
  go_enter Tryd.func11, Tryd.ntmps11
  go_wp2_with fail
  refine hof.mono ?_
  rintro _ _ ⟨rfl, hw⟩
  rw [hw]
  clear hw
  go_wp2_with fail
  refine hgr.mono ?_
  rintro _ w2 ⟨rfl, hM2, hC2⟩
  have H2 := HH.out.mem hM2 hC2
  have HC := Lib.hid hC2
  clear hof c1 f1 l1 g1 hgr d0 d1 d2 hM2 hC2
  have c0 := H2.l.cr.state hi
  rw [HS.out] at c0
  have c1 := H2.l.cr.tick hi
  have f1 := H2.l.cr.frozen (i * 2)
  have f2 := H2.l.cr.frozen (i * 2 + 1)
  have l1 := H2.l.cr.lt
  have g1 := H2.hF.2 1
  have lg := H2.hF.1
  have nq := H2.gq.2.1
  have H3 := Lib.hid ((H2.setT (s := V) hi).setS (s := 2) hi (by omega))
  clear H2
  go_wp2_with fail
  go_ret2
  exact ⟨rfl, H3.out, ((HC.out.weaken (by simp)).setCell (Or.inl (by simp)) _ _).setCell (Or.inl (by simp)) _ _⟩
set_option maxRecDepth 100000 in
theorem step_4 {w : World} {pl p q N A qc n i : Nat} {B : Nat → Nat} {S T : Nat → Nat} (h : Ready w pl p q N A qc n B S T) (hi : i < n) (hs : S i = 4) :
    Calls Tryd.prog 11 #[.pointer (some ⟨pl, 0, none⟩), .int .i64 i] w fun r w' => r = .returned (.tuple #[.int .i64 0, .int .i64 0]) ∧ Ready w' pl p q N A qc n (incB B (A + 8)) (updN S i 0) T ∧ Chg [qc, q] w w' := by
  obtain ⟨d0, d1, d2⟩ := h.l.cells
  have hN := h.m.hn
  have haN := h.aN
  have hgr := grow_any (X := A + 8) h.hW h.l h.m (by have := h.a8; omega) (by omega) h.ne.1
  have e8 : IntKind.u64.wrap ((A : Int) + 8) = ((A + 8 : Nat) : Int) := by rw [wrap_u64_small (by omega) (by omega)]; omega
  have E8 := Lib.hid e8
  clear e8
  generalize numB B (A + 8) = V at *
  generalize incB B (A + 8) = C at *
  have hof := of_ok h.l hi
  have c1 := h.l.cr.state hi
  rw [hs] at c1
  have f1 := h.l.cr.frozen (i * 2)
  have l1 := h.l.cr.lt
  have g1 := h.hF.2 4
  have HH := Lib.hid h
  have HS := Lib.hid hs
  clear h hs
  go_enter Tryd.func11, Tryd.ntmps11
  go_wp2_with fail
  refine hof.mono ?_
  rintro _ _ ⟨rfl, hw⟩
  rw [hw]
  clear hw
  go_wp2_with fail
  rw [show (A : Int) + 8 = ((A + 8 : Nat) : Int) by omega]
  refine hgr.mono ?_
  rintro _ w2 ⟨rfl, hM2, hC2⟩
  have H2 := HH.out.mem hM2 hC2
  have HC := Lib.hid hC2
  clear hof c1 f1 l1 g1 hgr d0 d1 d2 hM2 hC2
  have c0 := H2.l.cr.state hi
  rw [HS.out] at c0
  have f1 := H2.l.cr.frozen (i * 2)
  have l1 := H2.l.cr.lt
  have g1 := H2.hF.2 4
  have H3 := Lib.hid (H2.setS (s := 0) hi (by omega))
  clear H2
  go_wp2_with fail
  go_ret2
  exact ⟨rfl, H3.out, (HC.out.weaken (by simp)).setCell (Or.inl (by simp)) _ _⟩
set_option maxRecDepth 100000 in
theorem step_2 {w : World} {pl p q N A qc n i : Nat} {B : Nat → Nat} {S T : Nat → Nat} (h : Ready w pl p q N A qc n B S T) (hi : i < n) (hs : S i = 2) :
    Calls Tryd.prog 11 #[.pointer (some ⟨pl, 0, none⟩), .int .i64 i] w fun r w' => r = .returned (.tuple #[.int .i64 (if numB B (A + 8) = T i then 3 else 2), .int .i64 0]) ∧ Ready w' pl p q N A qc n B (updN S i (if numB B (A + 8) = T i then 3 else 2)) T ∧ Chg [qc, q] w w' := by
  obtain ⟨d0, d1, d2⟩ := h.l.cells
  have lpl := h.l.lt.1
  have hN := h.m.hn
  have haN := h.aN
  have hld : ∀ g, Calls Tryd.prog 13 #[.pointer (some ⟨p, 0, none⟩), .int .u64 ((A : Int) + 8), .int .i64 8] (w.grow g) fun r w' => r = .returned (.tuple #[.int .u64 (numB B (A + 8)), .int .i64 0]) ∧ ∃ h, w' = w.grow h := fun g => by
    rw [show (A : Int) + 8 = ((A + 8 : Nat) : Int) by omega]
    exact (Load_ok (h.hW.grows (Grows.of _ g)) (h.m.grows (Grows.of _ g)) (A + 8) 8 rfl (by have := h.a8; omega) (by omega)).mono fun _ _ ⟨he, hg⟩ => ⟨he, (Grows.of w g).trans hg⟩
  have e8 : IntKind.u64.wrap ((A : Int) + 8) = (A : Int) + 8 := wrap_u64_small (by omega) (by omega)
  have c2' := h.l.cr.tick hi
  have lg := h.hF.1
  have HI : Hid (updN S i 2 = S) := by
    show _ = _
    funext j; unfold updN; split
    · rename_i hj; rw [hj, hs]
    · rfl
  generalize numB B (A + 8) = V at *
  by_cases hv : V = T i
  · rw [if_pos hv, if_pos hv]
    have hd : ((V : Int) != (T i : Int)) = false := by simp; omega
    generalize T i = X at *
    clear hv
    have hof := of_ok h.l hi
    have c1 := h.l.cr.state hi
    rw [hs] at c1
    have f1 := h.l.cr.frozen (i * 2)
    have l1 := h.l.cr.lt
    have g1 := h.hF.2 2
    have HH := Lib.hid h
    have HS := Lib.hid hs
    clear h hs
    go_enter Tryd.func11, Tryd.ntmps11
    go_wp2_with fail
    refine hof.mono ?_
    rintro _ _ ⟨rfl, hw⟩
    rw [hw]
    clear hw
    go_wp2_with fail
    refine wp_region_grow (by kernel_rfl) (by kernel_rfl) ?_
    repeat (go_big_quiet_step ((go_at_call 13 <;> exact hld _)))
    refine wpQuiet_nil ?_
    intro _ hw'
    obtain ⟨gg, rfl⟩ := hw'
    have H2 := HH.out.grows (Grows.of w gg)
    go_wp2_with fail
    go_ret2
    exact ⟨rfl, H2.setS (s := 3) hi (by omega), (Chg.of_grows (Grows.of w gg)).setCell (Or.inl (by simp)) _ _⟩
  · rw [if_neg hv, if_neg hv]
    have hd : ((V : Int) != (T i : Int)) = true := by simp; omega
    generalize T i = X at *
    clear hv
    have hof := of_ok h.l hi
    have c1 := h.l.cr.state hi
    rw [hs] at c1
    have f1 := h.l.cr.frozen (i * 2)
    have l1 := h.l.cr.lt
    have g1 := h.hF.2 2
    have HH := Lib.hid h
    have HS := Lib.hid hs
    clear h hs
    go_enter Tryd.func11, Tryd.ntmps11
    go_wp2_with fail
    refine hof.mono ?_
    rintro _ _ ⟨rfl, hw⟩
    rw [hw]
    clear hw
    go_wp2_with fail
    refine wp_region_grow (by kernel_rfl) (by kernel_rfl) ?_
    repeat (go_big_quiet_step ((go_at_call 13 <;> exact hld _)))
    refine wpQuiet_nil ?_
    intro _ hw'
    obtain ⟨gg, rfl⟩ := hw'
    have H2 := HH.out.grows (Grows.of w gg)
    go_wp2_with fail
    go_ret2
    exact ⟨rfl, by rw [HI.out]; exact H2, Chg.of_grows (Grows.of w gg)⟩
/-- A core's next state. -/
def nxS (S T : Nat → Nat) (now i : Nat) : Nat := if S i = 1 then 2 else if S i = 2 then (if now = T i then 3 else 2) else if S i = 3 then 3 else 0
def nxT (S T : Nat → Nat) (next i : Nat) : Nat → Nat := if S i = 1 then updN T i next else T
def nxB (S : Nat → Nat) (A : Nat) (B : Nat → Nat) (i : Nat) : Nat → Nat := if S i = 1 then incB B A else if S i = 4 then incB B (A + 8) else B
theorem step_any {w : World} {pl p q N A qc n i : Nat} {B : Nat → Nat} {S T : Nat → Nat} (h : Ready w pl p q N A qc n B S T) (hi : i < n) :
    Calls Tryd.prog 11 #[.pointer (some ⟨pl, 0, none⟩), .int .i64 i] w fun r w' => r = .returned (.tuple #[.int .i64 (nxS S T (numB B (A + 8)) i : Nat), .int .i64 0]) ∧
      Ready w' pl p q N A qc n (nxB S A B i) (updN S i (nxS S T (numB B (A + 8)) i)) (nxT S T (numB B A) i) ∧ Chg [qc, q] w w' := by
  have h4 := h.l.hS i hi
  have : S i = 0 ∨ S i = 1 ∨ S i = 2 ∨ S i = 3 ∨ S i = 4 := by omega
  rcases this with e | e | e | e | e
  · have := step_0 h hi e
    simpa [nxS, nxT, nxB, e] using this
  · have := step_1 h hi e
    simpa [nxS, nxT, nxB, e] using this
  · have := step_2 h hi e
    simp only [nxS, nxT, nxB, e]
    by_cases hv : numB B (A + 8) = T i
    · simpa [hv] using this
    · simpa [hv] using this
  · have := step_3 h hi e
    simpa [nxS, nxT, nxB, e] using this
  · have := step_4 h hi e
    simpa [nxS, nxT, nxB, e] using this
theorem step_bad {w : World} {v : Option Addr} {i e : Int} (he : e ≠ 0) (hof : Calls Tryd.prog 27 #[.pointer v, .int .i64 i] w fun r w' => r = .returned (.tuple #[.pointer none, .int .i64 e]) ∧ w' = w) :
    Calls Tryd.prog 11 #[.pointer v, .int .i64 i] w fun r w' => r = .returned (.tuple #[.int .i64 0, .int .i64 e]) ∧ w' = w := by
  have hb : (e != 0) = true := by simp [he]
  go_enter Tryd.func11, Tryd.ntmps11
  go_wp2_with fail
  refine hof.mono ?_
  rintro _ _ ⟨rfl, hw⟩
  rw [hw]
  clear hw
  go_wp2_with fail
  go_ret2
  exact ⟨rfl, rfl⟩
theorem Take_of {w : World} {v : Option Addr} {i e : Int} {R : World → Prop} (h : Calls Tryd.prog 26 #[.pointer v, .int .i64 i, .int .i64 0, .int .i64 1] w fun r w' => r = .returned (.int .i64 e) ∧ R w') :
    Calls Tryd.prog 10 #[.pointer v, .int .i64 i] w fun r w' => r = .returned (.int .i64 e) ∧ R w' := by
  go_enter Tryd.func10, Tryd.ntmps10
  go_wp2_with fail
  refine h.mono ?_
  rintro _ w1 ⟨rfl, hq⟩
  go_wp2_with fail
  go_ret
  exact ⟨rfl, hq⟩
theorem Give_of {w : World} {v : Option Addr} {i e : Int} {R : World → Prop} (h : Calls Tryd.prog 26 #[.pointer v, .int .i64 i, .int .i64 3, .int .i64 4] w fun r w' => r = .returned (.int .i64 e) ∧ R w') :
    Calls Tryd.prog 12 #[.pointer v, .int .i64 i] w fun r w' => r = .returned (.int .i64 e) ∧ R w' := by
  go_enter Tryd.func12, Tryd.ntmps12
  go_wp2_with fail
  refine h.mono ?_
  rintro _ w1 ⟨rfl, hq⟩
  go_wp2_with fail
  go_ret
  exact ⟨rfl, hq⟩
theorem begin_any {w : World} {pl p q N A qc n i a b : Nat} {B : Nat → Nat} {S T : Nat → Nat} (h : Ready w pl p q N A qc n B S T) (hi : i < n) (hb : b ≤ 4) :
    Calls Tryd.prog 26 #[.pointer (some ⟨pl, 0, none⟩), .int .i64 i, .int .i64 a, .int .i64 b] w fun r w' => r = .returned (.int .i64 (if S i = a then 0 else 21)) ∧ Ready w' pl p q N A qc n B (if S i = a then updN S i b else S) T ∧ Chg [qc, q] w w' := by
  by_cases e : S i = a
  · rw [if_pos e, if_pos e]
    subst e
    exact (begin_ok h.l hi hb).mono fun _ _ ⟨he, hl, hc⟩ => ⟨he, h.cores hl hc, hc.weaken (by simp)⟩
  · rw [if_neg e, if_neg e]
    exact (begin_no h.l hi e).mono fun _ _ ⟨he, hw⟩ => ⟨he, by rw [hw]; exact h, by rw [hw]; exact Chg.refl _ _⟩
theorem Take_any {w : World} {pl p q N A qc n i : Nat} {B : Nat → Nat} {S T : Nat → Nat} (h : Ready w pl p q N A qc n B S T) (hi : i < n) :
    Calls Tryd.prog 10 #[.pointer (some ⟨pl, 0, none⟩), .int .i64 i] w fun r w' => r = .returned (.int .i64 (if S i = 0 then 0 else 21)) ∧ Ready w' pl p q N A qc n B (if S i = 0 then updN S i 1 else S) T ∧ Chg [qc, q] w w' :=
  Take_of (begin_any (a := 0) (b := 1) h hi (by omega))
theorem Give_any {w : World} {pl p q N A qc n i : Nat} {B : Nat → Nat} {S T : Nat → Nat} (h : Ready w pl p q N A qc n B S T) (hi : i < n) :
    Calls Tryd.prog 12 #[.pointer (some ⟨pl, 0, none⟩), .int .i64 i] w fun r w' => r = .returned (.int .i64 (if S i = 3 then 0 else 21)) ∧ Ready w' pl p q N A qc n B (if S i = 3 then updN S i 4 else S) T ∧ Chg [qc, q] w w' :=
  Give_of (begin_any (a := 3) (b := 4) h hi (by omega))
theorem Take_bad {w : World} {v : Option Addr} {i e : Int} (he : e ≠ 0) (hof : Calls Tryd.prog 27 #[.pointer v, .int .i64 i] w fun r w' => r = .returned (.tuple #[.pointer none, .int .i64 e]) ∧ w' = w) :
    Calls Tryd.prog 10 #[.pointer v, .int .i64 i] w fun r w' => r = .returned (.int .i64 e) ∧ w' = w :=
  Take_of (begin_bad he hof)
theorem Give_bad {w : World} {v : Option Addr} {i e : Int} (he : e ≠ 0) (hof : Calls Tryd.prog 27 #[.pointer v, .int .i64 i] w fun r w' => r = .returned (.tuple #[.pointer none, .int .i64 e]) ∧ w' = w) :
    Calls Tryd.prog 12 #[.pointer v, .int .i64 i] w fun r w' => r = .returned (.int .i64 e) ∧ w' = w :=
  Give_of (begin_bad he hof)
theorem State_bad {w : World} {v : Option Addr} {i e : Int} (he : e ≠ 0) (hof : Calls Tryd.prog 27 #[.pointer v, .int .i64 i] w fun r w' => r = .returned (.tuple #[.pointer none, .int .i64 e]) ∧ w' = w) :
    Calls Tryd.prog 14 #[.pointer v, .int .i64 i] w fun r w' => r = .returned (.tuple #[.int .i64 0, .int .u64 0]) ∧ w' = w := by
  have hb : (e != 0) = true := by simp [he]
  go_enter Tryd.func14, Tryd.ntmps14
  go_wp2_with fail
  refine hof.mono ?_
  rintro _ _ ⟨rfl, hw⟩
  rw [hw]
  clear hw
  go_wp2_with fail
  go_ret2
  exact ⟨rfl, rfl⟩
theorem State_any {w : World} {pl p A qc n i : Nat} {S T : Nat → Nat} (h : LockAt w pl p A qc n S T) (hi : i < n) :
    Calls Tryd.prog 14 #[.pointer (some ⟨pl, 0, none⟩), .int .i64 i] w fun r w' => r = .returned (.tuple #[.int .i64 (S i : Nat), .int .u64 (T i : Nat)]) ∧ Grows w w' := by
  have hof := of_ok h hi
  have c1 := h.cr.state hi
  have c2 := h.cr.tick hi
  have l1 := h.cr.lt
  generalize S i = X at *
  generalize T i = Y at *
  clear h
  by_cases hz : X = 0 ∧ Y = 0
  · obtain ⟨rfl, rfl⟩ := hz
    have hb : ∀ w, (binOp .eql 78 (.agg #[.int .i64 0, .int .u64 0]) (.agg #[.int .i64 0, .int .u64 0])).run Tryd.prog w = .ok (.bool true) w := fun w => by simp [go_sem]
    go_enter Tryd.func14, Tryd.ntmps14
    go_wp2_with fail
    refine hof.mono ?_
    rintro _ _ ⟨rfl, hw⟩
    rw [hw]
    clear hw
    go_wp2_with fail
    go_ret2
    exact ⟨rfl, Grows.refl _⟩
  · have hb : ∀ w, (binOp .eql 78 (.agg #[.int .i64 X, .int .u64 Y]) (.agg #[.int .i64 0, .int .u64 0])).run Tryd.prog w = .ok (.bool false) w := fun w => by
      simp [go_sem]
      by_cases h1 : X = 0 <;> by_cases h2 : Y = 0 <;> simp_all
    clear hz
    go_enter Tryd.func14, Tryd.ntmps14
    go_wp2_with fail
    refine hof.mono ?_
    rintro _ _ ⟨rfl, hw⟩
    rw [hw]
    clear hw
    go_wp2_with fail
    refine wp_region_grow (by kernel_rfl) (by kernel_rfl) ?_
    repeat (go_big_quiet_step (fail))
    refine wpQuiet_nil ?_
    intro _ hw'
    obtain ⟨gg, rfl⟩ := hw'
    go_wp2_with fail
    go_ret2
    exact ⟨rfl, Grows.of _ _⟩
/-- What is wrong with a new lock. -/
def lockE (N A : Nat) (c : Int) : Int := if c < 1 ∨ 8 < c then 2 else if A % 8 ≠ 0 then 11 else if 16 ≤ N ∧ A ≤ N - 16 then 0 else 12
theorem tnew_nil {v : Option Addr} {w : World} (h : NoMem w v) (A c : Int) :
    Calls Tryd.prog 9 #[.pointer v, .int .u64 A, .int .i64 c] w fun r w' => r = .returned (.tuple #[.pointer none, .int .i64 1]) ∧ w' = w := by
  have hf := frames_nob h
  go_enter Tryd.func9, Tryd.ntmps9
  go_wp2_with fail
  refine hf.mono ?_
  rintro _ _ ⟨rfl, hw⟩
  rw [hw]
  clear hw
  go_wp2_with fail
  go_ret2
  exact ⟨rfl, rfl⟩
theorem tnew_bad {w : World} {p q N A : Nat} {c : Int} {B : Nat → Nat} (h : Mem w p q N B) (h256 : 256 ≤ N) (hA : A < 18446744073709551616) (he : lockE N A c ≠ 0) :
    Calls Tryd.prog 9 #[.pointer (some ⟨p, 0, none⟩), .int .u64 A, .int .i64 c] w fun r w' => r = .returned (.tuple #[.pointer none, .int .i64 (lockE N A c)]) ∧ Grows w w' := by
  have hf := frames_any h
  obtain ⟨F, hF, hF1⟩ : ∃ F, F = N / 256 ∧ 1 ≤ F := ⟨_, rfl, by omega⟩
  rw [← hF] at hf
  have hb : ((F : Int) == 0) = false := by simp; omega
  clear hF
  by_cases h1 : c < 1
  · have hE : Hid (lockE N A c = 2) := by show _ = _; unfold lockE; rw [if_pos (Or.inl h1)]
    clear he
    go_enter Tryd.func9, Tryd.ntmps9
    go_wp2_with fail
    refine hf.mono ?_
    rintro _ _ ⟨rfl, hw⟩
    rw [hw]
    clear hw
    go_wp2_with fail
    go_ret2
    exact ⟨by rw [hE.out]; rfl, Grows.refl _⟩
  by_cases h2 : 8 < c
  · have hE : Hid (lockE N A c = 2) := by show _ = _; unfold lockE; rw [if_pos (Or.inr h2)]
    clear he
    go_enter Tryd.func9, Tryd.ntmps9
    go_wp2_with fail
    refine hf.mono ?_
    rintro _ _ ⟨rfl, hw⟩
    rw [hw]
    clear hw
    go_wp2_with fail
    go_ret2
    exact ⟨by rw [hE.out]; rfl, Grows.refl _⟩
  by_cases h3 : A % 8 = 0
  · have h4 : ¬ (16 ≤ N ∧ A ≤ N - 16) := by
      intro hh
      apply he
      unfold lockE
      rw [if_neg (by omega), if_neg (by omega), if_pos hh]
    have hE : Hid (lockE N A c = 12) := by show _ = _; unfold lockE; rw [if_neg (by omega), if_neg (by omega), if_neg h4]
    have e2 : partE N A 16 = 12 := by unfold partE; rw [if_neg (by omega), if_neg (by omega)]
    have hby := Bytes_bad h A 16 hA (by omega) (by rw [e2]; decide)
    rw [e2] at hby
    have hd : ((A : Int) % 8 != 0) = false := by simp; omega
    clear he e2 h4 h3
    go_enter Tryd.func9, Tryd.ntmps9
    go_wp2_with fail
    refine hf.mono ?_
    rintro _ _ ⟨rfl, hw⟩
    rw [hw]
    clear hw
    go_wp2_with fail
    refine hby.mono ?_
    rintro _ w1 ⟨rfl, hg⟩
    go_wp2_with fail
    go_ret2
    exact ⟨by rw [hE.out]; rfl, hg⟩
  · have hE : Hid (lockE N A c = 11) := by show _ = _; unfold lockE; rw [if_neg (by omega), if_pos h3]
    have hd : ((A : Int) % 8 != 0) = true := by simp; omega
    clear he h3
    go_enter Tryd.func9, Tryd.ntmps9
    go_wp2_with fail
    refine hf.mono ?_
    rintro _ _ ⟨rfl, hw⟩
    rw [hw]
    clear hw
    go_wp2_with fail
    go_ret2
    exact ⟨by rw [hE.out]; rfl, Grows.refl _⟩
theorem info_core : (Tryd.prog.info? 78).map (fun i => (i.zero, i.size, i.bytes)) = some (some (.agg #[.int .i64 0, .int .u64 0]), 2, 16) := by kernel_rfl
theorem run_make_core (c : Nat) (hc : c ≤ 8) (w : World) : (Instr.makeSlice 38 (.int .i64 c) (.int .i64 c)).run Tryd.prog w =
    .ok (.slice (some ⟨w.heap.size, 0, none⟩) c c) (w.alloc (.cells (madeCells #[.int .i64 0, .int .u64 0] (c * 2)) 78)) := by
  obtain ⟨i0, hi, hz0, hz1, hz2⟩ := info_parts info_core
  have h := run_make (P := Tryd.prog) w 38 78 i0 (.agg #[.int .i64 0, .int .u64 0]) Tryd.underlying38 hi hz0 .i64 .i64 (c : Int) (c : Int) (by omega) (by omega) (by rw [hz2]; omega) (by omega)
  rw [h, hz1]
  simp
  rfl
theorem run_make_16 (w : World) : (Instr.makeSlice 44 (.int .i64 16) (.int .i64 16)).run Tryd.prog w = .ok (.slice (some ⟨w.heap.size, 0, none⟩) 16 16) (w.alloc (.cells (madeCells #[.int .u8 0] 16) 5)) := by
  obtain ⟨i0, hi, hz0, hz1, hz2⟩ := info_parts info_u8
  have h := run_make (P := Tryd.prog) w 44 5 i0 (.int .u8 0) Tryd.underlying44 hi hz0 .i64 .i64 16 16 (by omega) (by omega) (by rw [hz2]; omega) (by omega)
  rw [h, hz1]
  rfl
theorem cores_made (w : World) (c : Nat) (t : TypeId) : CoresAt (w.alloc (.cells (madeCells #[.int .i64 0, .int .u64 0] (c * 2)) t)) w.heap.size c (fun _ => 0) (fun _ => 0) := by
  refine ⟨_, t, Row.new w _ t, size_madeCells _ _, fun i hi => ?_⟩
  have e1 : i * 2 < c * 2 := by omega
  have e2 : i * 2 + 1 < c * 2 := by omega
  constructor
  · simp [madeCells, e1]
  · simp [madeCells, e2]
theorem zero_src (w : World) (n : Nat) (t : TypeId) : Src (w.alloc (.cells (madeCells #[.int .u8 0] n) t)) (some ⟨w.heap.size, 0, none⟩) (List.replicate n 0) := by
  have h := Bts.made w n t
  have e : segB (fun _ => 0) 0 n = List.replicate n 0 := by
    apply List.ext_getElem
    · simp [segB]
    · intro i h1 h2
      simp [segB]
  have := Src.of_bytes (segB_bytes h 0 n (by omega)) h.blt
  rwa [e] at this
theorem tnew_ok {w : World} {p q N A c : Nat} {B : Nat → Nat} (hW : Widths w) (hF : Follows w) (h : Mem w p q N B) (h256 : 256 ≤ N) (hc1 : 1 ≤ c) (hc8 : c ≤ 8) (hA8 : A % 8 = 0) (hAN : A + 16 ≤ N)
    (hgq : 0 ≠ q ∧ 1 ≠ q) :
    Calls Tryd.prog 9 #[.pointer (some ⟨p, 0, none⟩), .int .u64 A, .int .i64 c] w fun r w' => ∃ pl qc, r = .returned (.tuple #[.pointer (some ⟨pl, 0, none⟩), .int .i64 0]) ∧
      Ready w' pl p q N A qc c (putB B A (List.replicate 16 0)) (fun _ => 0) (fun _ => 0) ∧ Chg [q] w w' ∧ w.heap.size ≤ qc ∧ qc < pl := by
  have hN := h.hn
  have hf := frames_any h
  obtain ⟨F, hF', hF1⟩ : ∃ F, F = N / 256 ∧ 1 ≤ F := ⟨_, rfl, by omega⟩
  rw [← hF'] at hf
  have hb : ((F : Int) == 0) = false := by simp; omega
  have hd : ((A : Int) % 8 != 0) = false := by simp; omega
  have hby := Bytes_ok h A 16 hAN
  have hm16 := run_make_16
  have hmk := run_make_core c hc8
  have HM := Lib.hid h
  have HA := Lib.hid hA8
  have HW := Lib.hid hW
  have HF := Lib.hid hF
  have l1 := h.plt
  have l2 := h.qlt
  have hput := fun w' (hg : Grows w w') => Put_ok (h.grows hg) A 16 16 (some ⟨w'.heap.size - 1, 0, none⟩) (List.replicate 16 0)
  clear h hA8 hW hF hF'
  go_enter Tryd.func9, Tryd.ntmps9
  go_wp2_with fail
  refine hf.mono ?_
  rintro _ _ ⟨rfl, hw⟩
  rw [hw]
  clear hw
  go_wp2_with fail
  refine hby.mono ?_
  rintro _ w1 ⟨v, rfl, b, cc, rfl, _, _, hg1, _, _⟩
  go_wp2_with fail
  refine (Put_ok (HM.out.grows (hg1.alloc _)) A 16 16 (some ⟨w1.heap.size, 0, none⟩) (List.replicate 16 0) (zero_src w1 16 _) (by simp) hAN).mono ?_
  rintro _ w2 ⟨rfl, hM2, hC2⟩
  have hC : Chg [q] w w2 := (Chg.of_grows (hg1.alloc _)).trans hC2
  have HC := Lib.hid hC
  have hlt : w.heap.size ≤ w2.heap.size := hC.size
  clear hg1 hC2 hC
  go_wp2_with fail
  go_ret2
  have hrow : Row ((w2.alloc (Obj.cells (madeCells #[.int .i64 0, .int .u64 0] (c * 2)) 78)).alloc (Obj.cells #[.pointer (some ⟨p, 0, none⟩), .int .u64 A, .slice (some ⟨w2.heap.size, 0, none⟩) c c] 40)) (w2.heap.size + 1) #[.pointer (some ⟨p, 0, none⟩), .int .u64 A, .slice (some ⟨w2.heap.size, 0, none⟩) c c] 40 := Row.new_at _ _ _ (by simp)
  have hg : Grows w2 ((w2.alloc (Obj.cells (madeCells #[.int .i64 0, .int .u64 0] (c * 2)) 78)).alloc (Obj.cells #[.pointer (some ⟨p, 0, none⟩), .int .u64 A, .slice (some ⟨w2.heap.size, 0, none⟩) c c] 40)) := ((Grows.refl _).alloc _).alloc _
  have hcr := (cores_made w2 c 78).chg (Chg.of_grows (S := []) ((Grows.refl _).alloc (Obj.cells #[.pointer (some ⟨p, 0, none⟩), .int .u64 A, .slice (some ⟨w2.heap.size, 0, none⟩) c c] 40))) (by simp)
  have hW2 := HW.out.1
  have hF2 := HF.out.1
  refine ⟨w2.heap.size + 1, w2.heap.size, rfl, ⟨⟨hrow, hcr, hc8, hc1, fun _ _ => by omega⟩, hM2.grows hg, HA.out, hAN, by omega, (Widths.chg HW.out HC.out (by simpa using hgq.2)).grows hg, (Follows.chg HF.out HC.out (by simpa using hgq.1)).grows hg, by omega⟩, HC.out.grows hg, hlt, by omega⟩
end Go.Proofs.YtbiadhgkpggdeaaDoor
