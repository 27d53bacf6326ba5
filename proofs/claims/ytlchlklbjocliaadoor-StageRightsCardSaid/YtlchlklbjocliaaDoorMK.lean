/- Texts of one kind, laid together. -/
import Derived.Test.YtlchlklbjocliaaDoorMC
import Derived.Laws.AppendOwn
import Derived.Carry
import Derived.Test.YtlchlklbjocliaaDoorMB
/- frames: each function with all its outcomes. -/
namespace Go.Proofs.YtlchlklbjocliaaDoor
open Go Go.RowKit
set_option linter.unusedSimpArgs false
set_option linter.unusedVariables false
set_option maxRecDepth 100000
def e1 (a : Int) : Int := if isOwn a then 0 else 2
def e2 (a b : Int) : Int := if isOwn a ∧ isOwn b then 0 else 2
/-- What becomes of Free. -/
def FreeR (n first : Nat) (T O : Nat → Nat) (x who : Int) (T' : Nat → Nat) (fl : Bool) (e : Int) : Prop :=
  (wrE n T O x who (e1 who) ≠ 0 ∧ e = wrE n T O x who (e1 who) ∧ fl = false ∧ T' = T) ∨
  ∃ j : Nat, x = j ∧ j < n ∧ 0 < T j ∧ (O j : Int) = who ∧ ((j < first ∧ e = 21 ∧ fl = false ∧ T' = T) ∨ (first ≤ j ∧ e = 0 ∧ fl = decide (T j = 1) ∧ T' = upF T j (T j - 1)))
theorem Free_all {w : World} {p bt bw n first low : Nat} {T O : Nat → Nat} {quo : Nat → Int} (h : FrAt w p bt bw n first T O quo low) (x who : Int) :
    Calls Tryd.prog 42 #[.pointer (some ⟨p, 0, none⟩), .int .i64 x, .int .i64 who] w fun r w' => ∃ fl e T' low', r = .returned (.tuple #[.bool fl, .int .i64 e]) ∧ FrAt w' p bt bw n first T' O quo low' ∧ Chg [p, bt, bw] w w' ∧ FreeR n first T O x who T' fl e := by
  by_cases he : wrE n T O x who (e1 who) = 0
  · obtain ⟨_, j, rfl, hj, hT, hO⟩ := wrE_zero he
    subst hO
    by_cases hf : j < first
    · exact (Free_first h hj hT rfl hf).mono fun _ _ ⟨hr, hg⟩ => ⟨false, 21, T, low, hr, h.grows hg, Chg.of_grows hg, Or.inr ⟨j, rfl, hj, hT, rfl, Or.inl ⟨hf, rfl, rfl, rfl⟩⟩⟩
    · by_cases h1 : T j = 1
      · refine (Free_last h hj h1 rfl (by omega)).mono fun _ _ ⟨hr, hF, hc⟩ => ⟨true, 0, _, _, hr, hF, hc, Or.inr ⟨j, rfl, hj, hT, rfl, Or.inr ⟨by omega, rfl, by simp [h1], by rw [h1]⟩⟩⟩
      · refine (Free_more h hj (by omega) rfl (by omega)).mono fun _ _ ⟨hr, hF, hc⟩ => ⟨false, 0, _, _, hr, hF, hc, Or.inr ⟨j, rfl, hj, hT, rfl, Or.inr ⟨by omega, rfl, by simp [h1], rfl⟩⟩⟩
  · exact (Free_bad h x who he).mono fun _ _ ⟨hr, hg⟩ => ⟨false, _, T, low, hr, h.grows hg, Chg.of_grows hg, Or.inl ⟨he, rfl, rfl, rfl⟩⟩
def MoveR (n first : Nat) (T O : Nat → Nat) (quo : Nat → Int) (x a b : Int) (O' : Nat → Nat) (e : Int) : Prop :=
  (wrE n T O x a (e2 a b) ≠ 0 ∧ e = wrE n T O x a (e2 a b) ∧ O' = O) ∨
  ∃ j b' : Nat, x = j ∧ b = b' ∧ b' < 17 ∧ j < n ∧ 0 < T j ∧ (O j : Int) = a ∧ (((j < first ∨ 1 < T j) ∧ e = 21 ∧ O' = O) ∨ (first ≤ j ∧ T j = 1 ∧ O j ≠ b' ∧ quo b' ≤ ownC n T O b' ∧ e = 19 ∧ O' = O) ∨ (first ≤ j ∧ T j = 1 ∧ (O j = b' ∨ (ownC n T O b' : Int) < quo b') ∧ e = 0 ∧ O' = upF O j b'))
def AllocR (n first : Nat) (T O : Nat → Nat) (quo : Nat → Int) (who : Int) (T' O' : Nat → Nat) (k e : Int) : Prop :=
  (¬ isOwn who ∧ k = 0 ∧ e = 2 ∧ T' = T ∧ O' = O) ∨
  ∃ o : Nat, who = o ∧ o < 17 ∧ ((quo o ≤ ownC n T O o ∧ k = 0 ∧ e = 19 ∧ T' = T ∧ O' = O) ∨ ((ownC n T O o : Int) < quo o ∧ (∀ i, i < n → 0 < T i) ∧ k = 0 ∧ e = 20 ∧ T' = T ∧ O' = O) ∨
    ((ownC n T O o : Int) < quo o ∧ ∃ j : Nat, k = j ∧ j < n ∧ first ≤ j ∧ (∀ i, i < j → 0 < T i) ∧ T j = 0 ∧ e = 0 ∧ T' = upF T j 1 ∧ O' = upF O j o))
theorem Alloc_all {w : World} {p bt bw n first low : Nat} {T O : Nat → Nat} {quo : Nat → Int} (h : FrAt w p bt bw n first T O quo low) (who : Int) :
    Calls Tryd.prog 29 #[.pointer (some ⟨p, 0, none⟩), .int .i64 who] w fun r w' => ∃ k e T' O' low', r = .returned (.tuple #[.int .i64 k, .int .i64 e]) ∧ FrAt w' p bt bw n first T' O' quo low' ∧ Chg [p, bt, bw] w w' ∧ AllocR n first T O quo who T' O' k e := by
  by_cases hw : isOwn who
  · obtain ⟨o, rfl, ho⟩ : ∃ o : Nat, who = o ∧ o < 17 := ⟨who.toNat, by unfold isOwn at hw; omega, by unfold isOwn at hw; omega⟩
    by_cases hq : quo o ≤ ownC n T O o
    · exact (Alloc_quota h ho hq).mono fun _ _ ⟨hr, hg⟩ => ⟨0, 19, T, O, low, hr, h.grows hg, Chg.of_grows hg, Or.inr ⟨o, rfl, ho, Or.inl ⟨hq, rfl, rfl, rfl, rfl⟩⟩⟩
    · refine (Alloc_any h ho (by omega)).mono fun r w' hh => ?_
      obtain ⟨⟨k, hk, hb, hT, hf, hr, hF⟩ | ⟨hb, hr, hF⟩, hc⟩ := hh
      · exact ⟨_, 0, _, _, _, hr, hF, hc, Or.inr ⟨o, rfl, ho, Or.inr (Or.inr ⟨by omega, k, rfl, hk, hf, hb, hT, rfl, rfl, rfl⟩)⟩⟩
      · exact ⟨0, 20, _, _, _, hr, hF, hc, Or.inr ⟨o, rfl, ho, Or.inr (Or.inl ⟨by omega, hb, rfl, rfl, rfl, rfl⟩)⟩⟩
  · exact (Alloc_bad h hw).mono fun _ _ ⟨hr, hg⟩ => ⟨0, 2, T, O, low, hr, h.grows hg, Chg.of_grows hg, Or.inl ⟨hw, rfl, rfl, rfl, rfl⟩⟩
end Go.Proofs.YtlchlklbjocliaaDoor

/- frames: Hold and Quota with all their outcomes. -/
namespace Go.Proofs.YtlchlklbjocliaaDoor
open Go Go.RowKit
set_option linter.unusedSimpArgs false
set_option linter.unusedVariables false
set_option maxRecDepth 100000
def HoldR (n : Nat) (T O : Nat → Nat) (x who : Int) (T' : Nat → Nat) (e : Int) : Prop :=
  (wrE n T O x who (e1 who) ≠ 0 ∧ e = wrE n T O x who (e1 who) ∧ T' = T) ∨
  ∃ j : Nat, x = j ∧ j < n ∧ 0 < T j ∧ (O j : Int) = who ∧ ((65536 ≤ T j ∧ e = 18 ∧ T' = T) ∨ (T j < 65536 ∧ e = 0 ∧ T' = upF T j (T j + 1)))
theorem Hold_all {w : World} {p bt bw n first low : Nat} {T O : Nat → Nat} {quo : Nat → Int} (h : FrAt w p bt bw n first T O quo low) (x who : Int) :
    Calls Tryd.prog 41 #[.pointer (some ⟨p, 0, none⟩), .int .i64 x, .int .i64 who] w fun r w' => ∃ e T', r = .returned (.int .i64 e) ∧ FrAt w' p bt bw n first T' O quo low ∧ Chg [p, bt, bw] w w' ∧ HoldR n T O x who T' e := by
  by_cases he : wrE n T O x who (e1 who) = 0
  · obtain ⟨_, j, rfl, hj, hT, hO⟩ := wrE_zero he
    subst hO
    by_cases hf : 65536 ≤ T j
    · exact (Hold_full h hj hf rfl).mono fun _ _ ⟨hr, hg⟩ => ⟨18, T, hr, h.grows hg, Chg.of_grows hg, Or.inr ⟨j, rfl, hj, hT, rfl, Or.inl ⟨hf, rfl, rfl⟩⟩⟩
    · exact (Hold_ok h hj (by omega) hT rfl).mono fun _ _ ⟨hr, hF, hc⟩ => ⟨0, _, hr, hF, hc, Or.inr ⟨j, rfl, hj, hT, rfl, Or.inr ⟨by omega, rfl, rfl⟩⟩⟩
  · exact (Hold_bad h x who he).mono fun _ _ ⟨hr, hg⟩ => ⟨_, T, hr, h.grows hg, Chg.of_grows hg, Or.inl ⟨he, rfl, rfl⟩⟩
theorem Quota_all {w : World} {p bt bw n first low : Nat} {T O : Nat → Nat} {quo : Nat → Int} (h : FrAt w p bt bw n first T O quo low) (x q : Int) :
    Calls Tryd.prog 43 #[.pointer (some ⟨p, 0, none⟩), .int .i64 x, .int .i64 q] w fun r w' => ∃ e quo', r = .returned (.int .i64 e) ∧ FrAt w' p bt bw n first T O quo' low ∧ Chg [p, bt, bw] w w' ∧
      (((¬ isOwn x ∨ q < 0) ∧ e = 2 ∧ quo' = quo) ∨ ∃ o : Nat, x = o ∧ o < 17 ∧ 0 ≤ q ∧ e = 0 ∧ quo' = fun j => if j = o then q else quo j) := by
  by_cases hb : ¬ isOwn x ∨ q < 0
  · exact (Quota_bad h x q hb).mono fun _ _ ⟨hr, hg⟩ => ⟨2, quo, hr, h.grows hg, Chg.of_grows hg, Or.inl ⟨hb, rfl, rfl⟩⟩
  · have hx : isOwn x := Classical.byContradiction fun hh => hb (Or.inl hh)
    obtain ⟨o, rfl, ho⟩ : ∃ o : Nat, x = o ∧ o < 17 := ⟨x.toNat, by unfold isOwn at hx; omega, by unfold isOwn at hx; omega⟩
    exact (Quota_ok h ho (q := q) (by omega)).mono fun _ _ ⟨hr, hF, hc⟩ => ⟨0, _, hr, hF, hc.weaken (by simp), Or.inr ⟨o, rfl, ho, by omega, rfl, rfl⟩⟩
end Go.Proofs.YtlchlklbjocliaaDoor

/- frames: List. -/
namespace Go.Proofs.YtlchlklbjocliaaDoor
open Go Go.RowKit
set_option linter.unusedSimpArgs false
set_option linter.unusedVariables false
set_option maxRecDepth 100000
/-- An owner's frames below k, rising. -/
def listC (T O : Nat → Nat) (o k : Nat) : List Nat := (List.range k).filter fun j => decide (0 < T j ∧ O j = o)
theorem listC_succ (T O : Nat → Nat) (o k : Nat) : listC T O o (k + 1) = listC T O o k ++ (if 0 < T k ∧ O k = o then [k] else []) := by
  unfold listC
  rw [List.range_succ, List.filter_append]
  by_cases h : 0 < T k ∧ O k = o
  · rw [if_pos h]; simp [h]
  · rw [if_neg h]; simp only [List.filter_cons, List.filter_nil, decide_eq_false h]; rfl
theorem listC_length (T O : Nat → Nat) (o : Nat) : ∀ k, (listC T O o k).length = ownC k T O o
  | 0 => rfl
  | k + 1 => by
    rw [listC_succ, List.length_append, listC_length T O o k]
    unfold ownC
    show _ = cn _ k + _
    by_cases h : 0 < T k ∧ O k = o
    · rw [if_pos h, if_pos (by simpa using h)]; rfl
    · rw [if_neg h, if_neg (by simpa using h)]; rfl
theorem listC_mem {T O : Nat → Nat} {o k j : Nat} : j ∈ listC T O o k ↔ j < k ∧ 0 < T j ∧ O j = o := by
  unfold listC; rw [List.mem_filter, List.mem_range]; simp
def valsOf (l : List Nat) : List Value := l.map fun j => Value.int .i64 (j : Nat)
end Go.Proofs.YtlchlklbjocliaaDoor

/- The reference of the package frames: what its functions answer. -/
namespace Go.Proofs.YtlchlklbjocliaaDoor
open Go Go.RowKit
set_option linter.unusedSimpArgs false
set_option linter.unusedVariables false
set_option maxRecDepth 100000
/-- n pairs of numbers. -/
def Prs (w : World) (q n : Nat) (R T : Nat → Nat) : Prop := ∃ cs t, Row w q cs t ∧ cs.size = n * 2 ∧ ∀ i, i < n → cs[i * 2]? = some (.int .i64 (R i : Nat)) ∧ cs[i * 2 + 1]? = some (.int .i64 (T i : Nat))
theorem Prs.chg {S : List Nat} {w w' : World} {q n : Nat} {R T : Nat → Nat} (h : Prs w q n R T) (hc : Chg S w w') (hq : q ∉ S) : Prs w' q n R T := by
  obtain ⟨cs, t, hr, hl, hx⟩ := h
  exact ⟨cs, t, hr.chg hc hq, hl, hx⟩
theorem Prs.lt {w : World} {q n : Nat} {R T : Nat → Nat} (h : Prs w q n R T) : q < w.heap.size := by
  obtain ⟨cs, t, hr, hl, hx⟩ := h
  exact hr.lt
theorem Prs.frozen {w : World} {q n : Nat} {R T : Nat → Nat} (h : Prs w q n R T) (j : Nat) : w.frozen? ⟨q, j, none⟩ = false := by
  obtain ⟨cs, t, hr, hl, hx⟩ := h
  exact hr.frozen j
theorem Prs.cells {w : World} {q n i : Nat} {R T : Nat → Nat} (h : Prs w q n R T) (hi : i < n) : w.cell? ⟨q, i * 2, none⟩ = some (.int .i64 (R i : Nat)) ∧ w.cell? ⟨q, i * 2 + 1, none⟩ = some (.int .i64 (T i : Nat)) := by
  obtain ⟨cs, t, hr, hl, hx⟩ := h
  rw [hr.cell, hr.cell]
  exact hx i hi
theorem Prs.setR {w : World} {q n i : Nat} {R T : Nat → Nat} (h : Prs w q n R T) (hi : i < n) (v : Nat) : Prs (w.setCell ⟨q, i * 2, none⟩ (.int .i64 (v : Nat))) q n (upF R i v) T := by
  obtain ⟨cs, t, hr, hl, hx⟩ := h
  refine ⟨_, t, hr.setCell (i := i * 2) (by omega) _, by simpa using hl, fun j hj => ?_⟩
  rw [Array.getElem?_set, Array.getElem?_set, if_neg (show ¬ i * 2 = j * 2 + 1 by omega)]
  unfold upF
  by_cases e : j = i
  · subst e
    rw [if_pos rfl, if_pos rfl]; exact ⟨rfl, (hx j hj).2⟩
  · rw [if_neg (by omega), if_neg e]; exact hx j hj
theorem Prs.setT {w : World} {q n i : Nat} {R T : Nat → Nat} (h : Prs w q n R T) (hi : i < n) (v : Nat) : Prs (w.setCell ⟨q, i * 2 + 1, none⟩ (.int .i64 (v : Nat))) q n R (upF T i v) := by
  obtain ⟨cs, t, hr, hl, hx⟩ := h
  refine ⟨_, t, hr.setCell (i := i * 2 + 1) (by omega) _, by simpa using hl, fun j hj => ?_⟩
  rw [Array.getElem?_set, Array.getElem?_set, if_neg (show ¬ i * 2 + 1 = j * 2 by omega)]
  unfold upF
  by_cases e : j = i
  · subst e
    rw [if_pos rfl, if_pos rfl]; exact ⟨(hx j hj).1, rfl⟩
  · rw [if_neg (by omega), if_neg e]; exact hx j hj
/-- The reference's Frames: as FrAt tells them. -/
structure RfAt (w : World) (rp rq n first : Nat) (T O : Nat → Nat) (quo : Nat → Int) : Prop where
  row : ∃ cs t, Row w rp cs t ∧ cs.size = 19 ∧ cs[0]? = some (.slice (some ⟨rq, 0, none⟩) n n) ∧ cs[1]? = some (.int .i64 first) ∧ ∀ i, i < 17 → cs[2 + i]? = some (.int .i64 (quo i))
  prs : ∃ R, Prs w rq n R T ∧ ∀ j, j < n → 0 < T j → R j = O j
  n1 : 1 ≤ n
  n2 : n ≤ 65536
  ob : ∀ j, j < n → 0 < T j → O j < 17
  tb : ∀ j, j < n → T j ≤ 65536
  ne : rp ≠ rq
theorem RfAt.chg {S : List Nat} {w w' : World} {rp rq n first : Nat} {T O : Nat → Nat} {quo : Nat → Int} (h : RfAt w rp rq n first T O quo) (hc : Chg S w w') (h1 : rp ∉ S ∧ rq ∉ S) : RfAt w' rp rq n first T O quo := by
  obtain ⟨cs, t, hr, r⟩ := h.row
  obtain ⟨R, hP, hR⟩ := h.prs
  exact ⟨⟨cs, t, hr.chg hc h1.1, r⟩, ⟨R, hP.chg hc h1.2, hR⟩, h.n1, h.n2, h.ob, h.tb, h.ne⟩
theorem RfAt.grows {w w' : World} {rp rq n first : Nat} {T O : Nat → Nat} {quo : Nat → Int} (h : RfAt w rp rq n first T O quo) (hg : Grows w w') : RfAt w' rp rq n first T O quo := h.chg (S := []) (Chg.of_grows hg) (by simp)
theorem RfAt.cells {w : World} {rp rq n first : Nat} {T O : Nat → Nat} {quo : Nat → Int} (h : RfAt w rp rq n first T O quo) :
    w.cell? ⟨rp, 0, none⟩ = some (.slice (some ⟨rq, 0, none⟩) n n) ∧ w.cell? ⟨rp, 1, none⟩ = some (.int .i64 first) := by
  obtain ⟨cs, t, hr, _, h0, h1, _⟩ := h.row
  exact ⟨by rw [hr.cell]; exact h0, by rw [hr.cell]; exact h1⟩
theorem RfAt.quo {w : World} {rp rq n first i : Nat} {T O : Nat → Nat} {quo : Nat → Int} (h : RfAt w rp rq n first T O quo) (hi : i < 17) : w.cell? ⟨rp, 2 + i, none⟩ = some (.int .i64 (quo i)) := by
  obtain ⟨cs, t, hr, _, _, _, h2⟩ := h.row
  rw [hr.cell]; exact h2 i hi
theorem RfAt.frozen {w : World} {rp rq n first : Nat} {T O : Nat → Nat} {quo : Nat → Int} (h : RfAt w rp rq n first T O quo) (i : Nat) : w.frozen? ⟨rp, i, none⟩ = false ∧ w.frozen? ⟨rq, i, none⟩ = false := by
  obtain ⟨cs, t, hr, _⟩ := h.row
  obtain ⟨R, hP, hR⟩ := h.prs
  exact ⟨hr.frozen i, hP.frozen i⟩
theorem RfAt.tm {w : World} {rp rq n first j : Nat} {T O : Nat → Nat} {quo : Nat → Int} (h : RfAt w rp rq n first T O quo) (hj : j < n) : w.cell? ⟨rq, j * 2 + 1, none⟩ = some (.int .i64 (T j : Nat)) := by
  obtain ⟨R, hP, hR⟩ := h.prs
  exact (hP.cells hj).2
theorem RfAt.ow {w : World} {rp rq n first j : Nat} {T O : Nat → Nat} {quo : Nat → Int} (h : RfAt w rp rq n first T O quo) (hj : j < n) (hT : 0 < T j) : w.cell? ⟨rq, j * 2, none⟩ = some (.int .i64 (O j : Nat)) := by
  obtain ⟨R, hP, hR⟩ := h.prs
  rw [← hR j hj hT]
  exact (hP.cells hj).1
theorem RfAt.lt {w : World} {rp rq n first : Nat} {T O : Nat → Nat} {quo : Nat → Int} (h : RfAt w rp rq n first T O quo) : rp < w.heap.size ∧ rq < w.heap.size := by
  obtain ⟨cs, t, hr, _⟩ := h.row
  obtain ⟨R, hP, hR⟩ := h.prs
  exact ⟨hr.lt, hP.lt⟩
theorem RfAt.setQuo {w : World} {rp rq n first i : Nat} {T O : Nat → Nat} {quo : Nat → Int} (h : RfAt w rp rq n first T O quo) (hi : i < 17) (v : Int) : RfAt (w.setCell ⟨rp, 2 + i, none⟩ (.int .i64 v)) rp rq n first T O (fun j => if j = i then v else quo j) := by
  obtain ⟨cs, t, hr, h9, h0, h1, h2⟩ := h.row
  obtain ⟨R, hP, hR⟩ := h.prs
  have hne := h.ne
  refine ⟨⟨_, t, hr.setCell (i := 2 + i) (by omega) _, by simpa using h9, ?_, ?_, fun j hj => ?_⟩, ⟨R, hP.chg ((Chg.refl [rp] _).setCell (Or.inl (by simp)) _ _) (by simp; omega), hR⟩, h.n1, h.n2, h.ob, h.tb, h.ne⟩
  all_goals rw [Array.getElem?_set]
  · rw [if_neg (by omega)]; exact h0
  · rw [if_neg (by omega)]; exact h1
  · by_cases e : j = i
    · subst e; rw [if_pos rfl]; simp
    · rw [if_neg (by omega), h2 j hj]; simp [e]
theorem RfAt.of_prs {w w' : World} {rp rq n first : Nat} {T O T' O' R' : Nat → Nat} {quo : Nat → Int} (h : RfAt w rp rq n first T O quo) (hc : Chg [rq] w w') (hP : Prs w' rq n R' T') (hR : ∀ j, j < n → 0 < T' j → R' j = O' j) (hob : ∀ j, j < n → 0 < T' j → O' j < 17) (htb : ∀ j, j < n → T' j ≤ 65536) : RfAt w' rp rq n first T' O' quo := by
  obtain ⟨cs, t, hr, r⟩ := h.row
  have hne := h.ne
  exact ⟨⟨cs, t, hr.chg hc (by simp; omega), r⟩, ⟨R', hP, hR⟩, h.n1, h.n2, hob, htb, h.ne⟩
theorem RfAt.setT {w : World} {rp rq n first j v : Nat} {T O : Nat → Nat} {quo : Nat → Int} (h : RfAt w rp rq n first T O quo) (hj : j < n) (hT : 0 < T j) (hv : v ≤ 65536) : RfAt (w.setCell ⟨rq, j * 2 + 1, none⟩ (.int .i64 (v : Nat))) rp rq n first (upF T j v) O quo := by
  obtain ⟨R, hP, hR⟩ := h.prs
  refine h.of_prs ((Chg.refl _ _).setCell (Or.inl (by simp)) _ _) (hP.setT hj v) (fun i hi h0 => ?_) (fun i hi h0 => ?_) (fun i hi => ?_)
  all_goals
    unfold upF at *
    by_cases e : i = j
    · subst e; first | exact hR i hi hT | exact h.ob i hi hT | (rw [if_pos rfl]; omega)
    · simp only [if_neg e] at *; first | exact hR i hi h0 | exact h.ob i hi h0 | exact h.tb i hi
theorem RfAt.setO {w : World} {rp rq n first j v : Nat} {T O : Nat → Nat} {quo : Nat → Int} (h : RfAt w rp rq n first T O quo) (hj : j < n) (hv : v < 17) : RfAt (w.setCell ⟨rq, j * 2, none⟩ (.int .i64 (v : Nat))) rp rq n first T (upF O j v) quo := by
  obtain ⟨R, hP, hR⟩ := h.prs
  refine h.of_prs ((Chg.refl _ _).setCell (Or.inl (by simp)) _ _) (hP.setR hj v) (fun i hi h0 => ?_) (fun i hi h0 => ?_) h.tb
  all_goals
    unfold upF at *
    by_cases e : i = j
    · subst e; first | (rw [if_pos rfl, if_pos rfl]) | (rw [if_pos rfl]; exact hv)
    · simp only [if_neg e] at *; first | exact hR i hi h0 | exact h.ob i hi h0
/-- A frame that is nobody's becomes somebody's. -/
theorem RfAt.give {w : World} {rp rq n first j o : Nat} {T O : Nat → Nat} {quo : Nat → Int} (h : RfAt w rp rq n first T O quo) (hj : j < n) (ho : o < 17) : RfAt ((w.setCell ⟨rq, j * 2, none⟩ (.int .i64 (o : Nat))).setCell ⟨rq, j * 2 + 1, none⟩ (.int .i64 (1 : Nat))) rp rq n first (upF T j 1) (upF O j o) quo := by
  obtain ⟨R, hP, hR⟩ := h.prs
  refine h.of_prs (((Chg.refl _ _).setCell (Or.inl (by simp)) _ _).setCell (Or.inl (by simp)) _ _) ((hP.setR hj o).setT hj 1) (fun i hi h0 => ?_) (fun i hi h0 => ?_) (fun i hi => ?_)
  all_goals
    unfold upF at *
    by_cases e : i = j
    · subst e; first | (rw [if_pos rfl, if_pos rfl]) | (rw [if_pos rfl]; omega)
    · simp only [if_neg e] at *; first | exact hR i hi h0 | exact h.ob i hi h0 | exact h.tb i hi
/-- A frame becomes nobody's. -/
theorem RfAt.drop {w : World} {rp rq n first j : Nat} {T O : Nat → Nat} {quo : Nat → Int} (h : RfAt w rp rq n first T O quo) (hj : j < n) : RfAt ((w.setCell ⟨rq, j * 2, none⟩ (.int .i64 (0 : Nat))).setCell ⟨rq, j * 2 + 1, none⟩ (.int .i64 (0 : Nat))) rp rq n first (upF T j 0) O quo := by
  obtain ⟨R, hP, hR⟩ := h.prs
  refine h.of_prs (((Chg.refl _ _).setCell (Or.inl (by simp)) _ _).setCell (Or.inl (by simp)) _ _) ((hP.setR hj 0).setT hj 0) (fun i hi h0 => ?_) (fun i hi h0 => ?_) (fun i hi => ?_)
  all_goals
    unfold upF at *
    by_cases e : i = j
    · subst e; first | (rw [if_pos rfl] at h0; exact absurd h0 (by omega)) | (rw [if_pos rfl]; omega)
    · simp only [if_neg e] at *; first | exact hR i hi h0 | exact h.ob i hi h0 | exact h.tb i hi
theorem rowner_is (i : Int) (w : World) : Calls Tryd.prog 90 #[.int .i64 i] w fun r w' => r = .returned (.bool (decide (isOwn i))) ∧ w' = w := by
  by_cases h0 : 0 ≤ i
  · by_cases h1 : i < 17
    · rw [show decide (isOwn i) = true from decide_eq_true ⟨h0, h1⟩]
      go_enter Tryd.func90, Tryd.ntmps90
      go_wp2_with fail
      go_ret
      exact ⟨rfl, rfl⟩
    · rw [show decide (isOwn i) = false from decide_eq_false (fun h => h1 h.2)]
      go_enter Tryd.func90, Tryd.ntmps90
      go_wp2_with fail
      go_ret
      exact ⟨rfl, rfl⟩
  · rw [show decide (isOwn i) = false from decide_eq_false (fun h => h0 h.1)]
    go_enter Tryd.func90, Tryd.ntmps90
    go_wp2_with fail
    go_ret
    exact ⟨rfl, rfl⟩
theorem ownI_is {n : Nat} {T O : Nat → Nat} (h : ∀ j, j < n → 0 < T j → O j < 17) (x : Int) : ownI n T O x = cn (fun j => decide (0 < T j ∧ (O j : Int) = x)) n := by
  unfold ownI
  by_cases hx : isOwn x
  · rw [if_pos hx]
    obtain ⟨h0, h1⟩ := hx
    exact cn_congr fun i hi => by
      by_cases e : 0 < T i
      · simp [e]; omega
      · simp [e]
  · rw [if_neg hx]
    refine (cn_none fun i hi => ?_).symm
    by_cases e : 0 < T i
    · have := h i hi e
      unfold isOwn at hx
      simp [e]; omega
    · simp [e]
set_option maxHeartbeats 1000000 in
theorem RCount_any {w : World} {rp rq n first : Nat} {T O : Nat → Nat} {quo : Nat → Int} (h : RfAt w rp rq n first T O quo) (x : Int) :
    Calls Tryd.prog 65 #[.pointer (some ⟨rp, 0, none⟩), .int .i64 x] w fun r w' => r = .returned (.tuple #[.int .i64 (ownI n T O x : Nat), .int .i64 ((n : Int) - heldC n T)]) ∧ Grows w w' := by
  rw [ownI_is h.ob x]
  obtain ⟨c0, c1⟩ := h.cells
  have hn2 := h.n2
  have HF := Lib.hid h
  clear h c1
  go_enter Tryd.func65, Tryd.ntmps65
  go_wp2_with fail
  go_loopw [6, 7, 8] (fun a f c wr => ∃ k a' f' : Nat, k ≤ n ∧ c = .int .i64 k ∧ a = .int .i64 a' ∧ f = .int .i64 f' ∧ a' = cn (fun j => decide (0 < T j ∧ (O j : Int) = x)) k ∧ f' + heldC k T = k ∧ a' ≤ k ∧ wr = w) (fun _ _ c _ => (n - intOf c).toNat)
  case atStart => exact ⟨0, 0, 0, by omega, rfl, rfl, rfl, rfl, rfl, by omega, rfl⟩
  case round =>
    obtain ⟨k, a', f', hk, rfl, rfl, rfl, ha, hf, hak, rfl⟩ := hrel
    by_cases hlt : k < n
    · have ct := HF.out.tm hlt
      have hs : heldC (k + 1) T = heldC k T + if 0 < T k then 1 else 0 := by
        show cn _ k + _ = _
        by_cases e : 0 < T k <;> simp [e] <;> rfl
      have ho : cn (fun j => decide (0 < T j ∧ (O j : Int) = x)) (k + 1) = cn (fun j => decide (0 < T j ∧ (O j : Int) = x)) k + if (0 < T k ∧ (O k : Int) = x) then 1 else 0 := by
        show cn _ k + _ = _
        by_cases e : (0 < T k ∧ (O k : Int) = x) <;> simp [e]
      rw [← ha] at ho
      by_cases hT : 0 < T k
      · have co := HF.out.ow hlt hT
        rw [if_pos hT] at hs
        have hb0 : ((T k : Int) == 0) = false := by simp; omega
        by_cases hO : (O k : Int) = x
        · rw [if_pos ⟨hT, hO⟩] at ho
          have HS := Lib.hid hs
          have HO := Lib.hid ho
          rw [hO] at co
          generalize T k = tk at *
          clear hs ho hO ha
          go_wp2_with fail
          exact ⟨⟨k + 1, a' + 1, f', by omega, by simp, by simp, rfl, HO.out.symm, by have := HS.out; omega, by omega, by trivial⟩, by simp [intOf]; omega⟩
        · rw [if_neg (fun h => hO h.2)] at ho
          have HS := Lib.hid hs
          have HO := Lib.hid ho
          have hb1 : ((O k : Int) == x) = false := by simp; exact hO
          generalize O k = ok at *
          generalize T k = tk at *
          clear hs ho ha
          go_wp2_with fail
          exact ⟨⟨k + 1, a', f', by omega, by simp, rfl, rfl, HO.out.symm, by have := HS.out; omega, by omega, by trivial⟩, by simp [intOf]; omega⟩
      · rw [if_neg hT] at hs
        rw [if_neg (fun h => hT h.1)] at ho
        have HS := Lib.hid hs
        have HO := Lib.hid ho
        have h0 : T k = 0 := by omega
        rw [h0] at ct
        clear hs ho hT h0 ha
        go_wp2_with fail
        exact ⟨⟨k + 1, a', f' + 1, by omega, by simp, rfl, by simp, HO.out.symm, by have := HS.out; omega, by omega, by trivial⟩, by simp [intOf]; omega⟩
    · have : n = k := by omega
      subst this
      have HA := Lib.hid ha
      have HF2 := Lib.hid hf
      clear ha hf
      go_wp2_with fail
      go_ret2
      refine ⟨?_, by first | exact Grows.refl _ | (simp; exact Grows.refl _)⟩
      rw [← HA.out, show (n : Int) - (heldC n T : Nat) = (f' : Nat) by have := HF2.out; omega]
      rfl
theorem rwrong_any {w : World} {rp rq n first : Nat} {T O : Nat → Nat} {quo : Nat → Int} (h : RfAt w rp rq n first T O quo) (x who : Int) :
    Calls Tryd.prog 98 #[.pointer (some ⟨rp, 0, none⟩), .int .i64 x, .int .i64 who] w fun r w' => r = .returned (.int .i64 (wrE n T O x who (e1 who))) ∧ Grows w w' := by
  have hio := rowner_is who w
  obtain ⟨c0, c1⟩ := h.cells
  have hn2 := h.n2
  unfold wrE e1
  by_cases ho : isOwn who
  · rw [decide_eq_true ho] at hio
    rw [if_pos ho, if_neg (by simp)]
    by_cases h0 : 0 ≤ x
    · by_cases hx : x < n
      · obtain ⟨j, rfl⟩ : ∃ j : Nat, x = j := ⟨x.toNat, by omega⟩
        have hj : j < n := by omega
        rw [if_neg (by simp; omega), Int.toNat_natCast]
        have ct := h.tm hj
        by_cases hT : 0 < T j
        · have co := h.ow hj hT
          have hb0 : ((T j : Int) == 0) = false := by simp; omega
          by_cases hO : (O j : Int) = who
          · rw [if_neg (fun hh => by rcases hh with hh | hh <;> omega)]
            rw [hO] at co
            generalize T j = tj at *
            clear h hT hO
            go_enter Tryd.func98, Tryd.ntmps98
            go_wp2_with fail
            refine (hio).mono ?_
            rintro _ _ ⟨rfl, hw⟩
            rw [hw]
            clear hw
            go_wp2_with fail
            go_ret
            exact ⟨by trivial, Grows.refl _⟩
          · rw [if_pos (Or.inr hO)]
            have hb1 : ((O j : Int) != who) = true := by simp; exact hO
            generalize T j = tj at *
            generalize O j = oj at *
            clear h hT
            go_enter Tryd.func98, Tryd.ntmps98
            go_wp2_with fail
            refine (hio).mono ?_
            rintro _ _ ⟨rfl, hw⟩
            rw [hw]
            clear hw
            go_wp2_with fail
            go_ret
            exact ⟨by trivial, Grows.refl _⟩
        · have h00 : T j = 0 := by omega
          rw [if_pos (Or.inl h00)]
          rw [h00] at ct
          clear h hT h00
          go_enter Tryd.func98, Tryd.ntmps98
          go_wp2_with fail
          refine (hio).mono ?_
          rintro _ _ ⟨rfl, hw⟩
          rw [hw]
          clear hw
          go_wp2_with fail
          go_ret
          exact ⟨by trivial, Grows.refl _⟩
      · rw [if_pos (by omega)]
        clear h
        go_enter Tryd.func98, Tryd.ntmps98
        go_wp2_with fail
        refine (hio).mono ?_
        rintro _ _ ⟨rfl, hw⟩
        rw [hw]
        clear hw
        go_wp2_with fail
        go_ret
        exact ⟨by trivial, Grows.refl _⟩
    · rw [if_pos (by omega)]
      clear h
      go_enter Tryd.func98, Tryd.ntmps98
      go_wp2_with fail
      refine (hio).mono ?_
      rintro _ _ ⟨rfl, hw⟩
      rw [hw]
      clear hw
      go_wp2_with fail
      go_ret
      exact ⟨by trivial, Grows.refl _⟩
  · rw [decide_eq_false ho] at hio
    rw [if_neg ho, if_pos (by simp)]
    clear h
    go_enter Tryd.func98, Tryd.ntmps98
    go_wp2_with fail
    refine (hio).mono ?_
    rintro _ _ ⟨rfl, hw⟩
    rw [hw]
    clear hw
    go_wp2_with fail
    go_ret
    exact ⟨by trivial, Grows.refl _⟩
end Go.Proofs.YtlchlklbjocliaaDoor

/- The reference of the package frames: what its functions change. -/
namespace Go.Proofs.YtlchlklbjocliaaDoor
open Go Go.RowKit
set_option linter.unusedSimpArgs false
set_option linter.unusedVariables false
set_option maxRecDepth 100000
set_option maxRecDepth 100000 in
theorem RHold_all {w : World} {rp rq n first : Nat} {T O T' : Nat → Nat} {quo : Nat → Int} {e x who : Int} (h : RfAt w rp rq n first T O quo) (hR : HoldR n T O x who T' e) :
    Calls Tryd.prog 85 #[.pointer (some ⟨rp, 0, none⟩), .int .i64 x, .int .i64 who] w fun r w' => r = .returned (.int .i64 e) ∧ RfAt w' rp rq n first T' O quo ∧ Chg [rp, rq] w w' := by
  have hwr := rwrong_any h x who
  have hn2 := h.n2
  rcases hR with ⟨he, hee, hTT⟩ | ⟨j, rfl, hj, hT, hO, hR⟩
  · rw [← hee] at hwr he
    obtain rfl := hTT.symm
    clear hee
    have hb : (e != 0) = true := by simp; exact he
    go_enter Tryd.func85, Tryd.ntmps85
    go_wp2_with fail
    refine hwr.mono ?_
    rintro _ w2 ⟨rfl, hg2⟩
    have HF := Lib.hid (h.grows hg2)
    have HC := Lib.hid (Chg.of_grows (S := [rp, rq]) hg2)
    clear h hwr hg2
    go_wp2_with fail
    go_ret
    exact ⟨by trivial, HF.out, HC.out⟩
  · subst hO
    have ho17 := h.ob j hj hT
    rw [show wrE n T O j (O j) (e1 (O j)) = 0 from wrE_ok hj hT rfl ho17] at hwr
    rcases hR with ⟨h1, rfl, hTT⟩ | ⟨h1, rfl, rfl⟩
    · obtain rfl := hTT.symm
      go_enter Tryd.func85, Tryd.ntmps85
      go_wp2_with fail
      refine hwr.mono ?_
      rintro _ w2 ⟨rfl, hg2⟩
      have HF := Lib.hid (h.grows hg2)
      have HC := Lib.hid (Chg.of_grows (S := [rp, rq]) hg2)
      obtain ⟨c0, c1⟩ := HF.out.cells
      have ct := HF.out.tm hj
      have hge : (65536 : Int) ≤ T j := by omega
      generalize T j = tj at *
      clear h hwr hg2
      go_wp2_with fail
      go_ret
      exact ⟨by trivial, HF.out, HC.out⟩
    · go_enter Tryd.func85, Tryd.ntmps85
      go_wp2_with fail
      refine hwr.mono ?_
      rintro _ w2 ⟨rfl, hg2⟩
      have HF := Lib.hid ((h.grows hg2).setT hj hT (v := T j + 1) (by omega))
      have HC := Lib.hid ((Chg.of_grows (S := [rp, rq]) hg2).setCell (b := rq) (Or.inl (by simp)) (j * 2 + 1) (.int .i64 (T j + 1 : Nat)))
      obtain ⟨c0, c1⟩ := (h.grows hg2).cells
      have ct := (h.grows hg2).tm hj
      have fr := ((h.grows hg2).frozen (j * 2 + 1)).2
      rw [show ((T j + 1 : Nat) : Int) = (T j : Int) + 1 by omega] at HF HC
      clear h hwr hg2 c1
      have ht1 : ¬ (65536 : Int) ≤ T j := by omega
      have ht2 : (0 : Int) < T j := by omega
      generalize (T j : Int) = tj at *
      clear h1 hT
      go_wp2_with fail
      go_ret
      exact ⟨by trivial, HF.out, HC.out⟩
set_option maxHeartbeats 1000000 in
theorem RFree_all {w : World} {rp rq n first : Nat} {T O T' : Nat → Nat} {quo : Nat → Int} {fl : Bool} {e x who : Int} (h : RfAt w rp rq n first T O quo) (hR : FreeR n first T O x who T' fl e) :
    Calls Tryd.prog 86 #[.pointer (some ⟨rp, 0, none⟩), .int .i64 x, .int .i64 who] w fun r w' => r = .returned (.tuple #[.bool fl, .int .i64 e]) ∧ RfAt w' rp rq n first T' O quo ∧ Chg [rp, rq] w w' := by
  have hwr := rwrong_any h x who
  have hn2 := h.n2
  rcases hR with ⟨he, hee, rfl, hTT⟩ | ⟨j, rfl, hj, hT, hO, hR⟩
  · rw [← hee] at hwr he
    obtain rfl := hTT.symm
    clear hee
    have hb : (e != 0) = true := by simp; exact he
    go_enter Tryd.func86, Tryd.ntmps86
    go_wp2_with fail
    refine hwr.mono ?_
    rintro _ w2 ⟨rfl, hg2⟩
    have HF := Lib.hid (h.grows hg2)
    have HC := Lib.hid (Chg.of_grows (S := [rp, rq]) hg2)
    clear h hwr hg2
    go_wp2_with fail
    go_ret2
    exact ⟨by trivial, HF.out, HC.out⟩
  · subst hO
    have ho17 := h.ob j hj hT
    have htb := h.tb j hj
    rw [show wrE n T O j (O j) (e1 (O j)) = 0 from wrE_ok hj hT rfl ho17] at hwr
    rcases hR with ⟨h1, rfl, rfl, hTT⟩ | ⟨h1, rfl, rfl, rfl⟩
    · obtain rfl := hTT.symm
      go_enter Tryd.func86, Tryd.ntmps86
      go_wp2_with fail
      refine hwr.mono ?_
      rintro _ w2 ⟨rfl, hg2⟩
      have HF := Lib.hid (h.grows hg2)
      have HC := Lib.hid (Chg.of_grows (S := [rp, rq]) hg2)
      obtain ⟨c0, c1⟩ := HF.out.cells
      clear h hwr hg2
      go_wp2_with fail
      go_ret2
      exact ⟨by trivial, HF.out, HC.out⟩
    · have hnf : ¬ (j : Int) < first := by omega
      have hsub : ((T j - 1 : Nat) : Int) = (T j : Int) - 1 := by omega
      by_cases h1 : T j = 1
      · rw [show decide (T j = 1) = true from decide_eq_true h1]
        go_enter Tryd.func86, Tryd.ntmps86
        go_wp2_with fail
        refine hwr.mono ?_
        rintro _ w2 ⟨rfl, hg2⟩
        have HF := Lib.hid ((h.grows hg2).setT hj hT (v := T j - 1) (by omega))
        have HC := Lib.hid ((Chg.of_grows (S := [rp, rq]) hg2).setCell (b := rq) (Or.inl (by simp)) (j * 2 + 1) (.int .i64 (T j - 1 : Nat)))
        obtain ⟨c0, c1⟩ := (h.grows hg2).cells
        have ct := (h.grows hg2).tm hj
        have fr := ((h.grows hg2).frozen (j * 2 + 1)).2
        have e0 := HF.out.cells.1
        have et := HF.out.tm hj
        rw [upF_same] at et
        rw [hsub] at HF HC e0 et
        have HF2 := Lib.hid (HF.out.drop hj)
        have HC2 := Lib.hid ((HC.out.setCell (b := rq) (Or.inl (by simp)) (j * 2) (.int .i64 (0 : Nat))).setCell (b := rq) (Or.inl (by simp)) (j * 2 + 1) (.int .i64 (0 : Nat)))
        have fa := ((h.grows hg2).frozen (j * 2)).2
        have co := (h.grows hg2).ow hj hT
        have hup : upF (upF T j (T j - 1)) j 0 = upF T j (T j - 1) := by
          rw [h1]; funext i; unfold upF; by_cases e : i = j <;> simp [e]
        rw [hup] at HF2
        rw [show (T j : Int) - 1 = 0 by omega, show (((0 : Nat)) : Int) = (0 : Int) from rfl] at HF2 HC2
        rw [show (T j : Int) - 1 = 0 by omega] at e0 et
        rw [h1] at ct
        clear h hwr hg2 HF HC hup hsub
        go_wp2_with fail
        go_ret2
        exact ⟨by trivial, HF2.out, HC2.out⟩
      · rw [show decide (T j = 1) = false from decide_eq_false h1]
        go_enter Tryd.func86, Tryd.ntmps86
        go_wp2_with fail
        refine hwr.mono ?_
        rintro _ w2 ⟨rfl, hg2⟩
        have HF := Lib.hid ((h.grows hg2).setT hj hT (v := T j - 1) (by omega))
        have HC := Lib.hid ((Chg.of_grows (S := [rp, rq]) hg2).setCell (b := rq) (Or.inl (by simp)) (j * 2 + 1) (.int .i64 (T j - 1 : Nat)))
        obtain ⟨c0, c1⟩ := (h.grows hg2).cells
        have ct := (h.grows hg2).tm hj
        have fr := ((h.grows hg2).frozen (j * 2 + 1)).2
        have e0 := HF.out.cells.1
        have et := HF.out.tm hj
        rw [upF_same] at et
        rw [hsub] at HF HC e0 et
        have hb1 : ((T j : Int) - 1 == 0) = false := by simp; omega
        clear h hwr hg2 hsub
        go_wp2_with fail
        go_ret2
        exact ⟨by trivial, HF.out, HC.out⟩
theorem own_nat (n : Nat) (T O : Nat → Nat) {k : Nat} (hk : k < 17) : ownI n T O (k : Int) = ownC n T O k := by unfold ownI; rw [if_pos (show isOwn (k : Int) from ⟨by omega, by omega⟩), Int.toNat_natCast]
theorem RfAt.ow' {w : World} {rp rq n first j : Nat} {T O : Nat → Nat} {quo : Nat → Int} (h : RfAt w rp rq n first T O quo) (hj : j < n) : ∃ r : Nat, w.cell? ⟨rq, j * 2, none⟩ = some (.int .i64 r) := by
  obtain ⟨R, hP, hR⟩ := h.prs
  exact ⟨R j, (hP.cells hj).1⟩
set_option maxHeartbeats 2000000 in
theorem RAlloc_all {w : World} {rp rq n first : Nat} {T O T' O' : Nat → Nat} {quo : Nat → Int} {who kf e : Int} (h : RfAt w rp rq n first T O quo) (hR : AllocR n first T O quo who T' O' kf e) :
    Calls Tryd.prog 60 #[.pointer (some ⟨rp, 0, none⟩), .int .i64 who] w fun r w' => r = .returned (.tuple #[.int .i64 kf, .int .i64 e]) ∧ RfAt w' rp rq n first T' O' quo ∧ Chg [rp, rq] w w' := by
  have hio := rowner_is who w
  have hcnt := RCount_any h who
  have hn2 := h.n2
  rcases hR with ⟨hno, rfl, rfl, hTT, hOO⟩ | ⟨o, rfl, ho17, hR⟩
  · obtain rfl := hTT.symm
    obtain rfl := hOO.symm
    rw [decide_eq_false hno] at hio
    have HF := Lib.hid h
    clear hno h hcnt
    go_enter Tryd.func60, Tryd.ntmps60
    go_wp2_with fail
    refine (hio).mono ?_
    rintro _ _ ⟨rfl, hw⟩
    rw [hw]
    clear hw
    go_wp2_with fail
    go_ret2
    exact ⟨by trivial, HF.out, Chg.refl _ _⟩
  · rw [decide_eq_true (show isOwn (o : Int) from ⟨by omega, by omega⟩)] at hio
    rw [own_nat n T O ho17] at hcnt
    rcases hR with ⟨hq, rfl, rfl, hTT, hOO⟩ | ⟨hq, hall, rfl, rfl, hTT, hOO⟩ | ⟨hq, j, rfl, hj, hf, hall, hT0, rfl, rfl, rfl⟩
    · obtain rfl := hTT.symm
      obtain rfl := hOO.symm
      go_enter Tryd.func60, Tryd.ntmps60
      go_wp2_with fail
      refine (hio).mono ?_
      rintro _ _ ⟨rfl, hw⟩
      rw [hw]
      clear hw
      go_wp2_with fail
      refine hcnt.mono ?_
      rintro _ w3 ⟨rfl, hg3⟩
      have HF := Lib.hid (h.grows hg3)
      have HC := Lib.hid (Chg.of_grows (S := [rp, rq]) hg3)
      have cq := HF.out.quo ho17
      generalize ownC n T O o = ov at *
      generalize quo o = qv at *
      generalize (n : Int) - (heldC n T : Nat) = fr at *
      clear h hg3 hcnt
      go_wp2_with fail
      go_ret2
      exact ⟨by trivial, HF.out, HC.out⟩
    · obtain rfl := hTT.symm
      obtain rfl := hOO.symm
      go_enter Tryd.func60, Tryd.ntmps60
      go_wp2_with fail
      refine (hio).mono ?_
      rintro _ _ ⟨rfl, hw⟩
      rw [hw]
      clear hw
      go_wp2_with fail
      refine hcnt.mono ?_
      rintro _ w3 ⟨rfl, hg3⟩
      have HF3 := Lib.hid (h.grows hg3)
      have HC3 := Lib.hid (Chg.of_grows (S := [rp, rq]) hg3)
      have cq := HF3.out.quo ho17
      have hq2 : ¬ quo o ≤ (ownC n T O o : Nat) := by omega
      generalize ownC n T O o = ov at *
      generalize quo o = qv at *
      generalize (n : Int) - (heldC n T : Nat) = fr at *
      obtain ⟨c0, c1⟩ := HF3.out.cells
      clear h hg3 hcnt
      go_wp2_with fail
      clear cq hq hq2
      have HF := Lib.hid HF3.out
      have HC := Lib.hid HC3.out
      go_loopw [8] (fun c wr => ∃ k : Nat, k ≤ n ∧ c = .int .i64 k ∧ wr = w3) (fun c _ => (n - intOf c).toNat)
      case atStart => exact ⟨0, by omega, rfl, rfl⟩
      case round =>
        obtain ⟨k, hk, rfl, rfl⟩ := hrel
        by_cases hlt : k < n
        · have ct := HF3.out.tm hlt
          have hT := hall k hlt
          have hb0 : ((T k : Int) == 0) = false := by simp; omega
          generalize T k = tk at *
          go_wp2_with fail
          exact ⟨⟨k + 1, by omega, by simp, by trivial⟩, by simp [intOf]; omega⟩
        · have : n = k := by omega
          subst this
          go_wp2_with fail
          go_ret2
          exact ⟨by trivial, HF.out, HC.out⟩
    · go_enter Tryd.func60, Tryd.ntmps60
      go_wp2_with fail
      refine (hio).mono ?_
      rintro _ _ ⟨rfl, hw⟩
      rw [hw]
      clear hw
      go_wp2_with fail
      refine hcnt.mono ?_
      rintro _ w3 ⟨rfl, hg3⟩
      have HF3 := Lib.hid (h.grows hg3)
      have HC3 := Lib.hid (Chg.of_grows (S := [rp, rq]) hg3)
      have cq := HF3.out.quo ho17
      have hq2 : ¬ quo o ≤ (ownC n T O o : Nat) := by omega
      generalize ownC n T O o = ov at *
      generalize quo o = qv at *
      generalize (n : Int) - (heldC n T : Nat) = fr at *
      obtain ⟨c0, c1⟩ := HF3.out.cells
      clear h hg3 hcnt
      go_wp2_with fail
      clear cq hq hq2
      have HF := Lib.hid (HF3.out.give hj ho17)
      have HC := Lib.hid ((HC3.out.setCell (b := rq) (Or.inl (by simp)) (j * 2) (.int .i64 (o : Nat))).setCell (b := rq) (Or.inl (by simp)) (j * 2 + 1) (.int .i64 (1 : Nat)))
      rw [show (((1 : Nat)) : Int) = (1 : Int) from rfl] at HF HC
      go_loopw [8] (fun c wr => ∃ k : Nat, k ≤ j ∧ c = .int .i64 k ∧ wr = w3) (fun c _ => (n - intOf c).toNat)
      case atStart => exact ⟨0, by omega, rfl, rfl⟩
      case round =>
        obtain ⟨k, hk, rfl, rfl⟩ := hrel
        have hlt : k < n := by omega
        have ct := HF3.out.tm hlt
        by_cases hkj : k < j
        · have hT := hall k hkj
          have hb0 : ((T k : Int) == 0) = false := by simp; omega
          generalize T k = tk at *
          clear HF
          go_wp2_with fail
          exact ⟨⟨k + 1, by omega, by simp, by trivial⟩, by simp [intOf]; omega⟩
        · obtain rfl : k = j := by omega
          rw [hT0] at ct
          obtain ⟨r0, co⟩ := HF3.out.ow' hlt
          have fa := (HF3.out.frozen (k * 2)).2
          have fb := (HF3.out.frozen (k * 2 + 1)).2
          clear hall hT0
          go_wp2_with fail
          go_ret2
          exact ⟨by trivial, HF.out, HC.out⟩
end Go.Proofs.YtlchlklbjocliaaDoor

/- The reference's New, and the program's where it refuses. -/
namespace Go.Proofs.YtlchlklbjocliaaDoor
open Go Go.RowKit
set_option linter.unusedSimpArgs false
set_option linter.unusedVariables false
set_option maxRecDepth 100000
/-- New lets these in. -/
def newOk (x y : Int) : Prop := 1 ≤ x ∧ x ≤ 65536 ∧ 0 ≤ y ∧ y ≤ x
theorem fnew_bad (w : World) {x y : Int} (h : ¬ newOk x y) :
    Calls Tryd.prog 20 #[.int .i64 x, .int .i64 y] w fun r w' => r = .returned (.tuple #[.pointer none, .int .i64 2]) ∧ w' = w := by
  unfold newOk at h
  by_cases h1 : x < 1
  · clear h
    go_enter Tryd.func20, Tryd.ntmps20
    go_wp2_with fail
    go_ret2
    exact ⟨rfl, rfl⟩
  · by_cases h2 : 65536 < x
    · clear h
      go_enter Tryd.func20, Tryd.ntmps20
      go_wp2_with fail
      go_ret2
      exact ⟨rfl, rfl⟩
    · by_cases h3 : y < 0
      · clear h
        go_enter Tryd.func20, Tryd.ntmps20
        go_wp2_with fail
        go_ret2
        exact ⟨rfl, rfl⟩
      · have h4 : x < y := by omega
        clear h
        go_enter Tryd.func20, Tryd.ntmps20
        go_wp2_with fail
        go_ret2
        exact ⟨rfl, rfl⟩
theorem madeCells_two (a : Value) (m : Nat) {i : Nat} (hi : i < m) : (madeCells #[a, a] m)[i]? = some a := by
  simp [madeCells, hi]
  have : i % 2 = 0 ∨ i % 2 = 1 := by omega
  rcases this with h | h <;> simp [h]
theorem Prs.made (w : World) (n : Nat) (t : TypeId) : Prs (w.alloc (.cells (madeCells #[.int .i64 0, .int .i64 0] (n * 2)) t)) w.heap.size n (fun _ => 0) (fstT 0) :=
  ⟨_, t, Row.new _ _ _, by rw [size_madeCells], fun i hi => ⟨madeCells_two _ _ (by omega), madeCells_two _ _ (by omega)⟩⟩
theorem info_partsR {o : Option TypeInfo} {z : Option Value} {sz b : Nat} (h : o.map (fun i => (i.zero, i.size, i.bytes)) = some (z, sz, b)) : ∃ i, o = some i ∧ i.zero = z ∧ i.size = sz ∧ i.bytes = b := by
  cases o with
  | none => simp at h
  | some i => simp at h; exact ⟨i, rfl, h.1, h.2.1, h.2.2⟩
theorem info_pair : (Tryd.prog.info? 157).map (fun i => (i.zero, i.size, i.bytes)) = some (some (.agg #[.int .i64 0, .int .i64 0]), 2, 16) := by kernel_rfl
theorem run_make_pair (c : Nat) (hc : c ≤ 65536) (w : World) : (Instr.makeSlice 153 (.int .i64 c) (.int .i64 c)).run Tryd.prog w =
    .ok (.slice (some ⟨w.heap.size, 0, none⟩) c c) (w.alloc (.cells (madeCells #[.int .i64 0, .int .i64 0] (c * 2)) 157)) := by
  obtain ⟨i0, hi, hz0, hz1, hz2⟩ := info_partsR info_pair
  have h := run_make (P := Tryd.prog) w 153 157 i0 (.agg #[.int .i64 0, .int .i64 0]) Tryd.underlying153 hi hz0 .i64 .i64 (c : Int) (c : Int) (by omega) (by omega) (by rw [hz2]; omega) (by omega)
  rw [h, hz1]
  simp
  rfl
theorem rfnew_bad (w : World) {x y : Int} (h : ¬ newOk x y) :
    Calls Tryd.prog 55 #[.int .i64 x, .int .i64 y] w fun r w' => r = .returned (.tuple #[.pointer none, .int .i64 2]) ∧ w' = w := by
  unfold newOk at h
  by_cases h1 : x < 1
  · clear h
    go_enter Tryd.func55, Tryd.ntmps55
    go_wp2_with fail
    go_ret2
    exact ⟨rfl, rfl⟩
  · by_cases h2 : 65536 < x
    · clear h
      go_enter Tryd.func55, Tryd.ntmps55
      go_wp2_with fail
      go_ret2
      exact ⟨rfl, rfl⟩
    · by_cases h3 : y < 0
      · clear h
        go_enter Tryd.func55, Tryd.ntmps55
        go_wp2_with fail
        go_ret2
        exact ⟨rfl, rfl⟩
      · have h4 : x < y := by omega
        clear h
        go_enter Tryd.func55, Tryd.ntmps55
        go_wp2_with fail
        go_ret2
        exact ⟨rfl, rfl⟩
def rnewCells (q n first : Nat) : Array Value := #[.slice (some ⟨q, 0, none⟩) n n, .int .i64 first, .int .i64 0, .int .i64 0, .int .i64 0, .int .i64 0, .int .i64 0, .int .i64 0, .int .i64 0, .int .i64 0, .int .i64 0, .int .i64 0, .int .i64 0, .int .i64 0, .int .i64 0, .int .i64 0, .int .i64 0, .int .i64 0, .int .i64 0]
theorem rnewCells_def (q n first : Nat) : (#[.slice (some ⟨q, 0, none⟩) n n, .int .i64 first, .int .i64 0, .int .i64 0, .int .i64 0, .int .i64 0, .int .i64 0, .int .i64 0, .int .i64 0, .int .i64 0, .int .i64 0, .int .i64 0, .int .i64 0, .int .i64 0, .int .i64 0, .int .i64 0, .int .i64 0, .int .i64 0, .int .i64 0] : Array Value) = rnewCells q n first := rfl
theorem RfAt.congr {w : World} {rp rq n first : Nat} {T O : Nat → Nat} {quo quo' : Nat → Int} (h : RfAt w rp rq n first T O quo) (hq : ∀ i, i < 17 → quo i = quo' i) : RfAt w rp rq n first T O quo' := by
  obtain ⟨cs, t, hr, h9, h0, h1, h2⟩ := h.row
  exact ⟨⟨cs, t, hr, h9, h0, h1, fun i hi => by rw [← hq i hi]; exact h2 i hi⟩, h.prs, h.n1, h.n2, h.ob, h.tb, h.ne⟩
set_option maxRecDepth 100000 in
set_option maxHeartbeats 2000000 in
theorem rfnew_ok (w : World) {n first : Nat} (h1 : 1 ≤ n) (h2 : n ≤ 65536) (hf : first ≤ n) :
    Calls Tryd.prog 55 #[.int .i64 n, .int .i64 first] w fun r w' => ∃ rp rq, r = .returned (.tuple #[.pointer (some ⟨rp, 0, none⟩), .int .i64 0]) ∧ RfAt w' rp rq n first (fstT first) (fun _ => 0) (fun _ => (n : Int)) ∧ Grows w w' ∧ w.heap.size ≤ rp ∧ w.heap.size ≤ rq := by
  have hmk := run_make_pair n h2
  have d1 : decide ((n : Int) < 1) = false := decide_eq_false (by omega)
  have d2 : decide ((65536 : Int) < n) = false := decide_eq_false (by omega)
  have d3 : decide ((first : Int) < 0) = false := decide_eq_false (by omega)
  have d4 : decide ((n : Int) < first) = false := decide_eq_false (by omega)
  go_enter Tryd.func55, Tryd.ntmps55
  go_wp2_with fail
  rw [rnewCells_def]
  obtain ⟨W3, hW3⟩ : ∃ W3, W3 = ((w.alloc (Obj.cells (madeCells #[.int .i64 0, .int .i64 0] (n * 2)) 157)).alloc (Obj.cells (rnewCells w.heap.size n first) 155)) := ⟨_, rfl⟩
  obtain ⟨rq, hrq⟩ : ∃ b, b = w.heap.size := ⟨_, rfl⟩
  obtain ⟨rp, hrp⟩ : ∃ b, b = w.heap.size + 1 := ⟨_, rfl⟩
  have g3 : Grows w W3 := by rw [hW3]; exact ((Grows.refl _).alloc _).alloc _
  have m1 : Prs W3 rq n (fun _ => 0) (fstT 0) := by
    rw [hW3, hrq]
    exact (Prs.made w n _).chg (S := []) (Chg.of_grows ((Grows.refl _).alloc _)) (by simp)
  have r3 : Row W3 rp (rnewCells rq n first) 155 := by
    rw [hW3, hrq]; exact Row.new_at _ _ _ (by simp [hrp])
  rw [← hW3, ← hrp, ← hrq]
  have hsep : Hid (rp ≠ rq ∧ w.heap.size ≤ rp ∧ w.heap.size ≤ rq) := Lib.hid (by omega)
  have HR := Lib.hid r3
  have HP := Lib.hid m1
  have HG := Lib.hid g3
  have hne := hsep.out.1
  generalize hNC : rnewCells rq n first = NC at *
  have HNC := Lib.hid hNC
  clear hW3 hrq hrp g3 m1 r3 hNC
  go_loopw [7] (fun c wr => ∃ k : Nat, k ≤ first ∧ c = .int .i64 k ∧ Prs wr rq n (fun _ => 0) (fstT k) ∧ Chg [rq] W3 wr) (fun c _ => (first - intOf c).toNat)
  case atStart => exact ⟨0, by omega, rfl, HP.out, Chg.refl _ _⟩
  case round =>
    clear HP
    obtain ⟨k, hk, rfl, hP, hC⟩ := hrel
    have HRk := Lib.hid (HR.out.chg hC (by simp; omega))
    by_cases hlt : k < first
    · have hkn : k < n := by omega
      have c0 : wr.cell? ⟨rp, 0, none⟩ = some (.slice (some ⟨rq, 0, none⟩) n n) := by rw [HRk.out.cell, ← HNC.out]; rfl
      obtain ⟨_, ct⟩ := hP.cells hkn
      have fr := hP.frozen (k * 2 + 1)
      have HP4 := hP.setT hkn 1
      rw [fstT_up, show (((1 : Nat)) : Int) = (1 : Int) from rfl] at HP4
      have HP5 := Lib.hid HP4
      have HC := Lib.hid (hC.setCell (b := rq) (Or.inl (by simp)) (k * 2 + 1) (.int .i64 1))
      clear HP4 hP hC
      go_wp2_with fail
      exact ⟨⟨k + 1, by omega, by simp, HP5.out, HC.out⟩, by simp [intOf]; omega⟩
    · have : first = k := by omega
      subst this
      have hR0 : RfAt wr rp rq n first (fstT first) (fun _ => 0) (fun i => if i < 0 then (n : Int) else 0) := by
        refine ⟨⟨NC, _, HRk.out, by rw [← HNC.out]; rfl, by rw [← HNC.out]; rfl, by rw [← HNC.out]; rfl, fun i hi => ?_⟩, ⟨_, hP, fun _ _ _ => rfl⟩, h1, h2, fun _ _ _ => by omega, fun j _ => by unfold fstT; split <;> omega, hne⟩
        rw [← HNC.out]
        have : i = 0 ∨ i = 1 ∨ i = 2 ∨ i = 3 ∨ i = 4 ∨ i = 5 ∨ i = 6 ∨ i = 7 ∨ i = 8 ∨ i = 9 ∨ i = 10 ∨ i = 11 ∨ i = 12 ∨ i = 13 ∨ i = 14 ∨ i = 15 ∨ i = 16 := by omega
        rcases this with rfl | rfl | rfl | rfl | rfl | rfl | rfl | rfl | rfl | rfl | rfl | rfl | rfl | rfl | rfl | rfl | rfl <;> rfl
      have HR0 := Lib.hid hR0
      have HC := Lib.hid (hC.weaken (T := [rp, rq]) (by simp))
      clear hR0 hP hC HR
      obtain ⟨wo, hwo⟩ : ∃ wo : World, wo = wr := ⟨_, rfl⟩
      rw [← hwo]
      rw [← hwo] at HR0 HC
      clear hwo HRk
      go_wp2_with fail
      go_loopw [8] (fun c wr => ∃ k : Nat, k ≤ 17 ∧ c = .int .i64 k ∧ RfAt wr rp rq n first (fstT first) (fun _ => 0) (fun i => if i < k then (n : Int) else 0) ∧ Chg [rp, rq] W3 wr) (fun c _ => (17 - intOf c).toNat)
      case atStart => exact ⟨0, by omega, rfl, HR0.out, HC.out⟩
      case round =>
        clear HR0 HC
        obtain ⟨k, hk, rfl, hR, hC⟩ := hrel
        by_cases hlt : k < 17
        · have cq := hR.quo hlt
          have fr := (hR.frozen (2 + k)).1
          have o1 : (k : Int) < 17 := by omega
          have o0 : (0 : Int) ≤ k := by omega
          have HR5 := Lib.hid ((hR.setQuo hlt (n : Int)).congr (quo' := fun i => if i < k + 1 then (n : Int) else 0) (fun i hi => by
            by_cases e : i = k
            · subst e; simp
            · by_cases e2 : i < k
              · simp [e, e2, show i < k + 1 by omega]
              · simp [e, e2, show ¬ i < k + 1 by omega]))
          have HC5 := Lib.hid (hC.setCell (b := rp) (Or.inl (by simp)) (2 + k) (.int .i64 n))
          generalize (if k < k then (n : Int) else 0) = qz at cq
          clear hR hC
          go_wp2_with fail
          exact ⟨⟨k + 1, by omega, by simp, HR5.out, HC5.out⟩, by simp [intOf]; omega⟩
        · obtain rfl : k = 17 := by omega
          have HR5 := Lib.hid (hR.congr (quo' := fun _ => (n : Int)) (fun i hi => by simp [hi]))
          have HG5 := Lib.hid (hC.to_grows HG.out (by have := hsep.out; simp; omega))
          clear hR hC
          go_wp2_with fail
          go_ret2
          exact ⟨rp, rq, by trivial, HR5.out, HG5.out, hsep.out.2⟩
end Go.Proofs.YtlchlklbjocliaaDoor

/- The reference of the package mem: Clear. -/
namespace Go.Proofs.YtlchlklbjocliaaDoor
open Go Go.RowKit
set_option linter.unusedSimpArgs false
set_option linter.unusedVariables false
set_option maxRecDepth 100000
theorem rClear_bad {p q n : Nat} {B : Nat → Nat} {w : World} (h : RMem w p q n B) (f : Int) (hf : f < 0 ∨ (n / 256 : Nat) ≤ f) :
    Calls Tryd.prog 97 #[.pointer (some ⟨p, 0, none⟩), .int .i64 f] w fun r w' => r = .returned (.int .i64 12) ∧ Grows w w' := by
  obtain ⟨c, h1, h2, h3⟩ := h.hd
  have c0 : w.cell? ⟨p, 0, none⟩ = some (.slice (some ⟨q, 0, none⟩) n c) := h3.cell 0
  clear h h3
  by_cases h0 : f < 0
  · go_enter Tryd.func97, Tryd.ntmps97
    go_wp2_with fail
    go_ret
    exact ⟨rfl, Grows.refl _⟩
  · have hd : decide (f < 0) = false := decide_eq_false h0
    have hf2 : ((n : Int) / 256) ≤ f := by omega
    clear hf
    go_enter Tryd.func97, Tryd.ntmps97
    go_wp2_with fail
    go_ret
    exact ⟨rfl, Grows.refl _⟩
set_option maxRecDepth 100000 in
theorem rClear_ok {p q n : Nat} {B : Nat → Nat} {w : World} (h : RMem w p q n B) (f : Nat) (hf : f < n / 256) :
    Calls Tryd.prog 97 #[.pointer (some ⟨p, 0, none⟩), .int .i64 f] w fun r w' => r = .returned (.int .i64 0) ∧ RMem w' p q n (putB B (f * 256) (List.replicate 256 0)) ∧ Chg [q] w w' := by
  have hN := h.hn
  have hle : f * 256 + 256 ≤ n := by omega
  have hf2 : (f : Int) < (n : Int) / 256 := by omega
  have hd : decide ((n : Int) / 256 ≤ (f : Int)) = false := decide_eq_false (by omega)
  obtain ⟨c, h1, h2, h3⟩ := h.hd
  have c0 : w.cell? ⟨p, 0, none⟩ = some (.slice (some ⟨q, 0, none⟩) n c) := h3.cell 0
  clear h3
  go_enter Tryd.func97, Tryd.ntmps97
  go_wp2_with fail
  clear c0
  go_loopw [5] (fun i wr => ∃ k : Nat, k ≤ 256 ∧ i = .int .i64 k ∧ RMem wr p q n (putB B (f * 256) (List.replicate k 0)) ∧ Chg [q] w wr) (fun i _ => (256 - intOf i).toNat)
  case atStart => exact ⟨0, by omega, rfl, by rw [List.replicate_zero, putB_nil]; exact h, Chg.refl _ _⟩
  case round =>
    obtain ⟨k, hk, rfl, hMr, hCr⟩ := hrel
    clear h
    by_cases hlt : k < 256
    · have HP : Hid (putB B (f * 256) (List.replicate (k + 1) 0) = put1 (putB B (f * 256) (List.replicate k 0)) (f * 256 + k) 0) := by
        show _ = _
        rw [List.replicate_succ', putB_snoc, List.length_replicate]
      generalize putB B (f * 256) (List.replicate k 0) = C at *
      obtain ⟨cc, h1, h2, h3⟩ := hMr.hd
      have c0 : wr.cell? ⟨p, 0, none⟩ = some (.slice (some ⟨q, 0, none⟩) n cc) := h3.cell 0
      have c1 : wr.cell? ⟨q, f * 256 + k, none⟩ = some (.int .u8 (C (f * 256 + k) : Nat)) := hMr.bts.cell (by omega)
      have f1 := hMr.bts.frozen (f * 256 + k)
      have i1 : f * 256 + k < n := by omega
      have i2 : (f : Int) * 256 + k < n := by omega
      have i3 : (0 : Int) ≤ f * 256 + k := by omega
      have i6 : ((f : Int) * 256 + k).toNat = f * 256 + k := by omega
      have HM := Lib.hid hMr
      have HC := Lib.hid hCr
      clear h3 hMr hCr
      go_wp2_with fail
      refine ⟨⟨k + 1, by omega, by simp, ?_, HC.out.setCell (Or.inl (by simp)) _ _⟩, by simp [intOf]; omega⟩
      rw [HP.out]
      exact HM.out.upd ((Chg.refl _ _).setCell (Or.inl (by simp)) _ _) (HM.out.bts.set1 i1 (by decide))
    · have : k = 256 := by omega
      subst this
      go_wp2_with fail
      go_ret
      exact ⟨rfl, hMr, hCr⟩
end Go.Proofs.YtlchlklbjocliaaDoor

