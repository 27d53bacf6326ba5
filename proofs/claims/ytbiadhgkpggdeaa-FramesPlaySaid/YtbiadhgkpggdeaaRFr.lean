/- The reference of the package frames: what its functions answer. -/
import Derived.Test.YtbiadhgkpggdeaaFrP
namespace Go.Proofs.Ytbiadhgkpggdeaa
open Go Go.RowKit
set_option linter.unusedSimpArgs false
set_option linter.unusedVariables false
/-- n pairs of numbers. -/
def Prs (w : World) (q n : Nat) (R T : Nat → Nat) : Prop := ∃ cs t, Row w q cs t ∧ cs.size = n * 2 ∧ ∀ i, i < n → cs[i * 2]? = some (.int .i64 (R i : Nat)) ∧ cs[i * 2 + 1]? = some (.int .i64 (T i : Nat))
theorem Prs.chg {S : List Nat} {w w' : World} {q n : Nat} {R T : Nat → Nat} (h : Prs w q n R T) (hc : Chg S w w') (hq : q ∉ S) : Prs w' q n R T := by
  obtain ⟨cs, t, hr, hl, hx⟩ := h
  exact ⟨cs, t, hr.chg hc hq, hl, hx⟩
theorem Prs.lt {w : World} {q n : Nat} {R T : Nat → Nat} (h : Prs w q n R T) : q < w.heap.size := by
  obtain ⟨cs, t, hr, hl, hx⟩ := h
  exact hr.lt
theorem Prs.frozen {w : World} {q n : Nat} {R T : Nat → Nat} (h : Prs w q n R T) (j : Nat) : w.frozen? ⟨q, j, none⟩ = false := by
  obtain ⟨cs, t, hr, hl, hx⟩ := h
  exact hr.frozen j
theorem Prs.cells {w : World} {q n i : Nat} {R T : Nat → Nat} (h : Prs w q n R T) (hi : i < n) : w.cell? ⟨q, i * 2, none⟩ = some (.int .i64 (R i : Nat)) ∧ w.cell? ⟨q, i * 2 + 1, none⟩ = some (.int .i64 (T i : Nat)) := by
  obtain ⟨cs, t, hr, hl, hx⟩ := h
  rw [hr.cell, hr.cell]
  exact hx i hi
theorem Prs.setR {w : World} {q n i : Nat} {R T : Nat → Nat} (h : Prs w q n R T) (hi : i < n) (v : Nat) : Prs (w.setCell ⟨q, i * 2, none⟩ (.int .i64 (v : Nat))) q n (upF R i v) T := by
  obtain ⟨cs, t, hr, hl, hx⟩ := h
  refine ⟨_, t, hr.setCell (i := i * 2) (by omega) _, by simpa using hl, fun j hj => ?_⟩
  rw [Array.getElem?_set, Array.getElem?_set, if_neg (show ¬ i * 2 = j * 2 + 1 by omega)]
  unfold upF
  by_cases e : j = i
  · subst e
    rw [if_pos rfl, if_pos rfl]; exact ⟨rfl, (hx j hj).2⟩
  · rw [if_neg (by omega), if_neg e]; exact hx j hj
theorem Prs.setT {w : World} {q n i : Nat} {R T : Nat → Nat} (h : Prs w q n R T) (hi : i < n) (v : Nat) : Prs (w.setCell ⟨q, i * 2 + 1, none⟩ (.int .i64 (v : Nat))) q n R (upF T i v) := by
  obtain ⟨cs, t, hr, hl, hx⟩ := h
  refine ⟨_, t, hr.setCell (i := i * 2 + 1) (by omega) _, by simpa using hl, fun j hj => ?_⟩
  rw [Array.getElem?_set, Array.getElem?_set, if_neg (show ¬ i * 2 + 1 = j * 2 by omega)]
  unfold upF
  by_cases e : j = i
  · subst e
    rw [if_pos rfl, if_pos rfl]; exact ⟨(hx j hj).1, rfl⟩
  · rw [if_neg (by omega), if_neg e]; exact hx j hj
/-- The reference's Frames: as FrAt tells them. -/
structure RfAt (w : World) (rp rq n first : Nat) (T O : Nat → Nat) (quo : Nat → Int) : Prop where
  row : ∃ cs t, Row w rp cs t ∧ cs.size = 19 ∧ cs[0]? = some (.slice (some ⟨rq, 0, none⟩) n n) ∧ cs[1]? = some (.int .i64 first) ∧ ∀ i, i < 17 → cs[2 + i]? = some (.int .i64 (quo i))
  prs : ∃ R, Prs w rq n R T ∧ ∀ j, j < n → 0 < T j → R j = O j
  n1 : 1 ≤ n
  n2 : n ≤ 65536
  ob : ∀ j, j < n → 0 < T j → O j < 17
  tb : ∀ j, j < n → T j ≤ 65536
  ne : rp ≠ rq
theorem RfAt.chg {S : List Nat} {w w' : World} {rp rq n first : Nat} {T O : Nat → Nat} {quo : Nat → Int} (h : RfAt w rp rq n first T O quo) (hc : Chg S w w') (h1 : rp ∉ S ∧ rq ∉ S) : RfAt w' rp rq n first T O quo := by
  obtain ⟨cs, t, hr, r⟩ := h.row
  obtain ⟨R, hP, hR⟩ := h.prs
  exact ⟨⟨cs, t, hr.chg hc h1.1, r⟩, ⟨R, hP.chg hc h1.2, hR⟩, h.n1, h.n2, h.ob, h.tb, h.ne⟩
theorem RfAt.grows {w w' : World} {rp rq n first : Nat} {T O : Nat → Nat} {quo : Nat → Int} (h : RfAt w rp rq n first T O quo) (hg : Grows w w') : RfAt w' rp rq n first T O quo := h.chg (S := []) (Chg.of_grows hg) (by simp)
theorem RfAt.cells {w : World} {rp rq n first : Nat} {T O : Nat → Nat} {quo : Nat → Int} (h : RfAt w rp rq n first T O quo) :
    w.cell? ⟨rp, 0, none⟩ = some (.slice (some ⟨rq, 0, none⟩) n n) ∧ w.cell? ⟨rp, 1, none⟩ = some (.int .i64 first) := by
  obtain ⟨cs, t, hr, _, h0, h1, _⟩ := h.row
  exact ⟨by rw [hr.cell]; exact h0, by rw [hr.cell]; exact h1⟩
theorem RfAt.quo {w : World} {rp rq n first i : Nat} {T O : Nat → Nat} {quo : Nat → Int} (h : RfAt w rp rq n first T O quo) (hi : i < 17) : w.cell? ⟨rp, 2 + i, none⟩ = some (.int .i64 (quo i)) := by
  obtain ⟨cs, t, hr, _, _, _, h2⟩ := h.row
  rw [hr.cell]; exact h2 i hi
theorem RfAt.frozen {w : World} {rp rq n first : Nat} {T O : Nat → Nat} {quo : Nat → Int} (h : RfAt w rp rq n first T O quo) (i : Nat) : w.frozen? ⟨rp, i, none⟩ = false ∧ w.frozen? ⟨rq, i, none⟩ = false := by
  obtain ⟨cs, t, hr, _⟩ := h.row
  obtain ⟨R, hP, hR⟩ := h.prs
  exact ⟨hr.frozen i, hP.frozen i⟩
theorem RfAt.tm {w : World} {rp rq n first j : Nat} {T O : Nat → Nat} {quo : Nat → Int} (h : RfAt w rp rq n first T O quo) (hj : j < n) : w.cell? ⟨rq, j * 2 + 1, none⟩ = some (.int .i64 (T j : Nat)) := by
  obtain ⟨R, hP, hR⟩ := h.prs
  exact (hP.cells hj).2
theorem RfAt.ow {w : World} {rp rq n first j : Nat} {T O : Nat → Nat} {quo : Nat → Int} (h : RfAt w rp rq n first T O quo) (hj : j < n) (hT : 0 < T j) : w.cell? ⟨rq, j * 2, none⟩ = some (.int .i64 (O j : Nat)) := by
  obtain ⟨R, hP, hR⟩ := h.prs
  rw [← hR j hj hT]
  exact (hP.cells hj).1
theorem RfAt.lt {w : World} {rp rq n first : Nat} {T O : Nat → Nat} {quo : Nat → Int} (h : RfAt w rp rq n first T O quo) : rp < w.heap.size ∧ rq < w.heap.size := by
  obtain ⟨cs, t, hr, _⟩ := h.row
  obtain ⟨R, hP, hR⟩ := h.prs
  exact ⟨hr.lt, hP.lt⟩
theorem RfAt.setQuo {w : World} {rp rq n first i : Nat} {T O : Nat → Nat} {quo : Nat → Int} (h : RfAt w rp rq n first T O quo) (hi : i < 17) (v : Int) : RfAt (w.setCell ⟨rp, 2 + i, none⟩ (.int .i64 v)) rp rq n first T O (fun j => if j = i then v else quo j) := by
  obtain ⟨cs, t, hr, h9, h0, h1, h2⟩ := h.row
  obtain ⟨R, hP, hR⟩ := h.prs
  have hne := h.ne
  refine ⟨⟨_, t, hr.setCell (i := 2 + i) (by omega) _, by simpa using h9, ?_, ?_, fun j hj => ?_⟩, ⟨R, hP.chg ((Chg.refl [rp] _).setCell (Or.inl (by simp)) _ _) (by simp; omega), hR⟩, h.n1, h.n2, h.ob, h.tb, h.ne⟩
  all_goals rw [Array.getElem?_set]
  · rw [if_neg (by omega)]; exact h0
  · rw [if_neg (by omega)]; exact h1
  · by_cases e : j = i
    · subst e; rw [if_pos rfl]; simp
    · rw [if_neg (by omega), h2 j hj]; simp [e]
theorem RfAt.of_prs {w w' : World} {rp rq n first : Nat} {T O T' O' R' : Nat → Nat} {quo : Nat → Int} (h : RfAt w rp rq n first T O quo) (hc : Chg [rq] w w') (hP : Prs w' rq n R' T') (hR : ∀ j, j < n → 0 < T' j → R' j = O' j) (hob : ∀ j, j < n → 0 < T' j → O' j < 17) (htb : ∀ j, j < n → T' j ≤ 65536) : RfAt w' rp rq n first T' O' quo := by
  obtain ⟨cs, t, hr, r⟩ := h.row
  have hne := h.ne
  exact ⟨⟨cs, t, hr.chg hc (by simp; omega), r⟩, ⟨R', hP, hR⟩, h.n1, h.n2, hob, htb, h.ne⟩
theorem RfAt.setT {w : World} {rp rq n first j v : Nat} {T O : Nat → Nat} {quo : Nat → Int} (h : RfAt w rp rq n first T O quo) (hj : j < n) (hT : 0 < T j) (hv : v ≤ 65536) : RfAt (w.setCell ⟨rq, j * 2 + 1, none⟩ (.int .i64 (v : Nat))) rp rq n first (upF T j v) O quo := by
  obtain ⟨R, hP, hR⟩ := h.prs
  refine h.of_prs ((Chg.refl _ _).setCell (Or.inl (by simp)) _ _) (hP.setT hj v) (fun i hi h0 => ?_) (fun i hi h0 => ?_) (fun i hi => ?_)
  all_goals
    unfold upF at *
    by_cases e : i = j
    · subst e; first | exact hR i hi hT | exact h.ob i hi hT | (rw [if_pos rfl]; omega)
    · simp only [if_neg e] at *; first | exact hR i hi h0 | exact h.ob i hi h0 | exact h.tb i hi
theorem RfAt.setO {w : World} {rp rq n first j v : Nat} {T O : Nat → Nat} {quo : Nat → Int} (h : RfAt w rp rq n first T O quo) (hj : j < n) (hv : v < 17) : RfAt (w.setCell ⟨rq, j * 2, none⟩ (.int .i64 (v : Nat))) rp rq n first T (upF O j v) quo := by
  obtain ⟨R, hP, hR⟩ := h.prs
  refine h.of_prs ((Chg.refl _ _).setCell (Or.inl (by simp)) _ _) (hP.setR hj v) (fun i hi h0 => ?_) (fun i hi h0 => ?_) h.tb
  all_goals
    unfold upF at *
    by_cases e : i = j
    · subst e; first | (rw [if_pos rfl, if_pos rfl]) | (rw [if_pos rfl]; exact hv)
    · simp only [if_neg e] at *; first | exact hR i hi h0 | exact h.ob i hi h0
/-- A frame that is nobody's becomes somebody's. -/
theorem RfAt.give {w : World} {rp rq n first j o : Nat} {T O : Nat → Nat} {quo : Nat → Int} (h : RfAt w rp rq n first T O quo) (hj : j < n) (ho : o < 17) : RfAt ((w.setCell ⟨rq, j * 2, none⟩ (.int .i64 (o : Nat))).setCell ⟨rq, j * 2 + 1, none⟩ (.int .i64 (1 : Nat))) rp rq n first (upF T j 1) (upF O j o) quo := by
  obtain ⟨R, hP, hR⟩ := h.prs
  refine h.of_prs (((Chg.refl _ _).setCell (Or.inl (by simp)) _ _).setCell (Or.inl (by simp)) _ _) ((hP.setR hj o).setT hj 1) (fun i hi h0 => ?_) (fun i hi h0 => ?_) (fun i hi => ?_)
  all_goals
    unfold upF at *
    by_cases e : i = j
    · subst e; first | (rw [if_pos rfl, if_pos rfl]) | (rw [if_pos rfl]; omega)
    · simp only [if_neg e] at *; first | exact hR i hi h0 | exact h.ob i hi h0 | exact h.tb i hi
/-- A frame becomes nobody's. -/
theorem RfAt.drop {w : World} {rp rq n first j : Nat} {T O : Nat → Nat} {quo : Nat → Int} (h : RfAt w rp rq n first T O quo) (hj : j < n) : RfAt ((w.setCell ⟨rq, j * 2, none⟩ (.int .i64 (0 : Nat))).setCell ⟨rq, j * 2 + 1, none⟩ (.int .i64 (0 : Nat))) rp rq n first (upF T j 0) O quo := by
  obtain ⟨R, hP, hR⟩ := h.prs
  refine h.of_prs (((Chg.refl _ _).setCell (Or.inl (by simp)) _ _).setCell (Or.inl (by simp)) _ _) ((hP.setR hj 0).setT hj 0) (fun i hi h0 => ?_) (fun i hi h0 => ?_) (fun i hi => ?_)
  all_goals
    unfold upF at *
    by_cases e : i = j
    · subst e; first | (rw [if_pos rfl] at h0; exact absurd h0 (by omega)) | (rw [if_pos rfl]; omega)
    · simp only [if_neg e] at *; first | exact hR i hi h0 | exact h.ob i hi h0 | exact h.tb i hi
theorem rowner_is (i : Int) (w : World) : Calls Try.prog 30 #[.int .i64 i] w fun r w' => r = .returned (.bool (decide (isOwn i))) ∧ w' = w := by
  by_cases h0 : 0 ≤ i
  · by_cases h1 : i < 17
    · rw [show decide (isOwn i) = true from decide_eq_true ⟨h0, h1⟩]
      go_enter Try.func30, Try.ntmps30
      go_wp2_with fail
      go_ret
      exact ⟨rfl, rfl⟩
    · rw [show decide (isOwn i) = false from decide_eq_false (fun h => h1 h.2)]
      go_enter Try.func30, Try.ntmps30
      go_wp2_with fail
      go_ret
      exact ⟨rfl, rfl⟩
  · rw [show decide (isOwn i) = false from decide_eq_false (fun h => h0 h.1)]
    go_enter Try.func30, Try.ntmps30
    go_wp2_with fail
    go_ret
    exact ⟨rfl, rfl⟩
theorem ownI_is {n : Nat} {T O : Nat → Nat} (h : ∀ j, j < n → 0 < T j → O j < 17) (x : Int) : ownI n T O x = cn (fun j => decide (0 < T j ∧ (O j : Int) = x)) n := by
  unfold ownI
  by_cases hx : isOwn x
  · rw [if_pos hx]
    obtain ⟨h0, h1⟩ := hx
    exact cn_congr fun i hi => by
      by_cases e : 0 < T i
      · simp [e]; omega
      · simp [e]
  · rw [if_neg hx]
    refine (cn_none fun i hi => ?_).symm
    by_cases e : 0 < T i
    · have := h i hi e
      unfold isOwn at hx
      simp [e]; omega
    · simp [e]
set_option maxHeartbeats 1000000 in
theorem RCount_any {w : World} {rp rq n first : Nat} {T O : Nat → Nat} {quo : Nat → Int} (h : RfAt w rp rq n first T O quo) (x : Int) :
    Calls Try.prog 20 #[.pointer (some ⟨rp, 0, none⟩), .int .i64 x] w fun r w' => r = .returned (.tuple #[.int .i64 (ownI n T O x : Nat), .int .i64 ((n : Int) - heldC n T)]) ∧ Grows w w' := by
  rw [ownI_is h.ob x]
  obtain ⟨c0, c1⟩ := h.cells
  have hn2 := h.n2
  have HF := Lib.hid h
  clear h c1
  go_enter Try.func20, Try.ntmps20
  go_wp2_with fail
  go_loopw [6, 7, 8] (fun a f c wr => ∃ k a' f' : Nat, k ≤ n ∧ c = .int .i64 k ∧ a = .int .i64 a' ∧ f = .int .i64 f' ∧ a' = cn (fun j => decide (0 < T j ∧ (O j : Int) = x)) k ∧ f' + heldC k T = k ∧ a' ≤ k ∧ wr = w) (fun _ _ c _ => (n - intOf c).toNat)
  case atStart => exact ⟨0, 0, 0, by omega, rfl, rfl, rfl, rfl, rfl, by omega, rfl⟩
  case round =>
    obtain ⟨k, a', f', hk, rfl, rfl, rfl, ha, hf, hak, rfl⟩ := hrel
    by_cases hlt : k < n
    · have ct := HF.out.tm hlt
      have hs : heldC (k + 1) T = heldC k T + if 0 < T k then 1 else 0 := by
        show cn _ k + _ = _
        by_cases e : 0 < T k <;> simp [e] <;> rfl
      have ho : cn (fun j => decide (0 < T j ∧ (O j : Int) = x)) (k + 1) = cn (fun j => decide (0 < T j ∧ (O j : Int) = x)) k + if (0 < T k ∧ (O k : Int) = x) then 1 else 0 := by
        show cn _ k + _ = _
        by_cases e : (0 < T k ∧ (O k : Int) = x) <;> simp [e]
      rw [← ha] at ho
      by_cases hT : 0 < T k
      · have co := HF.out.ow hlt hT
        rw [if_pos hT] at hs
        have hb0 : ((T k : Int) == 0) = false := by simp; omega
        by_cases hO : (O k : Int) = x
        · rw [if_pos ⟨hT, hO⟩] at ho
          have HS := Lib.hid hs
          have HO := Lib.hid ho
          rw [hO] at co
          generalize T k = tk at *
          clear hs ho hO ha
          go_wp2_with fail
          exact ⟨⟨k + 1, a' + 1, f', by omega, by simp, by simp, rfl, HO.out.symm, by have := HS.out; omega, by omega, by trivial⟩, by simp [intOf]; omega⟩
        · rw [if_neg (fun h => hO h.2)] at ho
          have HS := Lib.hid hs
          have HO := Lib.hid ho
          have hb1 : ((O k : Int) == x) = false := by simp; exact hO
          generalize O k = ok at *
          generalize T k = tk at *
          clear hs ho ha
          go_wp2_with fail
          exact ⟨⟨k + 1, a', f', by omega, by simp, rfl, rfl, HO.out.symm, by have := HS.out; omega, by omega, by trivial⟩, by simp [intOf]; omega⟩
      · rw [if_neg hT] at hs
        rw [if_neg (fun h => hT h.1)] at ho
        have HS := Lib.hid hs
        have HO := Lib.hid ho
        have h0 : T k = 0 := by omega
        rw [h0] at ct
        clear hs ho hT h0 ha
        go_wp2_with fail
        exact ⟨⟨k + 1, a', f' + 1, by omega, by simp, rfl, by simp, HO.out.symm, by have := HS.out; omega, by omega, by trivial⟩, by simp [intOf]; omega⟩
    · have : n = k := by omega
      subst this
      have HA := Lib.hid ha
      have HF2 := Lib.hid hf
      clear ha hf
      go_wp2_with fail
      go_ret2
      refine ⟨?_, by first | exact Grows.refl _ | (simp; exact Grows.refl _)⟩
      rw [← HA.out, show (n : Int) - (heldC n T : Nat) = (f' : Nat) by have := HF2.out; omega]
      rfl
theorem rwrong_any {w : World} {rp rq n first : Nat} {T O : Nat → Nat} {quo : Nat → Int} (h : RfAt w rp rq n first T O quo) (x who : Int) :
    Calls Try.prog 31 #[.pointer (some ⟨rp, 0, none⟩), .int .i64 x, .int .i64 who] w fun r w' => r = .returned (.int .i64 (wrE n T O x who (e1 who))) ∧ Grows w w' := by
  have hio := rowner_is who w
  obtain ⟨c0, c1⟩ := h.cells
  have hn2 := h.n2
  unfold wrE e1
  by_cases ho : isOwn who
  · rw [decide_eq_true ho] at hio
    rw [if_pos ho, if_neg (by simp)]
    by_cases h0 : 0 ≤ x
    · by_cases hx : x < n
      · obtain ⟨j, rfl⟩ : ∃ j : Nat, x = j := ⟨x.toNat, by omega⟩
        have hj : j < n := by omega
        rw [if_neg (by simp; omega), Int.toNat_natCast]
        have ct := h.tm hj
        by_cases hT : 0 < T j
        · have co := h.ow hj hT
          have hb0 : ((T j : Int) == 0) = false := by simp; omega
          by_cases hO : (O j : Int) = who
          · rw [if_neg (fun hh => by rcases hh with hh | hh <;> omega)]
            rw [hO] at co
            generalize T j = tj at *
            clear h hT hO
            go_enter Try.func31, Try.ntmps31
            go_wp2_with fail
            refine (hio).mono ?_
            rintro _ _ ⟨rfl, hw⟩
            rw [hw]
            clear hw
            go_wp2_with fail
            go_ret
            exact ⟨by trivial, Grows.refl _⟩
          · rw [if_pos (Or.inr hO)]
            have hb1 : ((O j : Int) != who) = true := by simp; exact hO
            generalize T j = tj at *
            generalize O j = oj at *
            clear h hT
            go_enter Try.func31, Try.ntmps31
            go_wp2_with fail
            refine (hio).mono ?_
            rintro _ _ ⟨rfl, hw⟩
            rw [hw]
            clear hw
            go_wp2_with fail
            go_ret
            exact ⟨by trivial, Grows.refl _⟩
        · have h00 : T j = 0 := by omega
          rw [if_pos (Or.inl h00)]
          rw [h00] at ct
          clear h hT h00
          go_enter Try.func31, Try.ntmps31
          go_wp2_with fail
          refine (hio).mono ?_
          rintro _ _ ⟨rfl, hw⟩
          rw [hw]
          clear hw
          go_wp2_with fail
          go_ret
          exact ⟨by trivial, Grows.refl _⟩
      · rw [if_pos (by omega)]
        clear h
        go_enter Try.func31, Try.ntmps31
        go_wp2_with fail
        refine (hio).mono ?_
        rintro _ _ ⟨rfl, hw⟩
        rw [hw]
        clear hw
        go_wp2_with fail
        go_ret
        exact ⟨by trivial, Grows.refl _⟩
    · rw [if_pos (by omega)]
      clear h
      go_enter Try.func31, Try.ntmps31
      go_wp2_with fail
      refine (hio).mono ?_
      rintro _ _ ⟨rfl, hw⟩
      rw [hw]
      clear hw
      go_wp2_with fail
      go_ret
      exact ⟨by trivial, Grows.refl _⟩
  · rw [decide_eq_false ho] at hio
    rw [if_neg ho, if_pos (by simp)]
    clear h
    go_enter Try.func31, Try.ntmps31
    go_wp2_with fail
    refine (hio).mono ?_
    rintro _ _ ⟨rfl, hw⟩
    rw [hw]
    clear hw
    go_wp2_with fail
    go_ret
    exact ⟨by trivial, Grows.refl _⟩
theorem RQuota_all {w : World} {rp rq n first : Nat} {T O : Nat → Nat} {quo quo' : Nat → Int} {e x q : Int} (h : RfAt w rp rq n first T O quo)
    (hR : ((¬ isOwn x ∨ q < 0) ∧ e = 2 ∧ quo' = quo) ∨ ∃ o : Nat, x = o ∧ o < 17 ∧ 0 ≤ q ∧ e = 0 ∧ quo' = fun j => if j = o then q else quo j) :
    Calls Try.prog 29 #[.pointer (some ⟨rp, 0, none⟩), .int .i64 x, .int .i64 q] w fun r w' => r = .returned (.int .i64 e) ∧ RfAt w' rp rq n first T O quo' ∧ Chg [rp, rq] w w' := by
  have hio := rowner_is x w
  have HF := Lib.hid h
  obtain ⟨f0, _⟩ := h.frozen 0
  rcases hR with ⟨hb, rfl, rfl⟩ | ⟨o, rfl, ho, hq, rfl, rfl⟩
  · by_cases ho : isOwn x
    · rw [decide_eq_true ho] at hio
      have hq : q < 0 := by rcases hb with hb | hb; exact absurd ho hb; exact hb
      clear h ho hb
      go_enter Try.func29, Try.ntmps29
      go_wp2_with fail
      refine (hio).mono ?_
      rintro _ _ ⟨rfl, hw⟩
      rw [hw]
      clear hw
      go_wp2_with fail
      go_ret
      exact ⟨by trivial, HF.out, Chg.refl _ _⟩
    · rw [decide_eq_false ho] at hio
      clear h ho hb
      go_enter Try.func29, Try.ntmps29
      go_wp2_with fail
      refine (hio).mono ?_
      rintro _ _ ⟨rfl, hw⟩
      rw [hw]
      clear hw
      go_wp2_with fail
      go_ret
      exact ⟨by trivial, HF.out, Chg.refl _ _⟩
  · rw [decide_eq_true (show isOwn (o : Int) from ⟨by omega, by omega⟩)] at hio
    have cq := h.quo ho
    have fq := (h.frozen (2 + o)).1
    have o1 : (o : Int) < 17 := by omega
    have o0 : (0 : Int) ≤ o := by omega
    have HF2 := Lib.hid (h.setQuo ho q)
    clear h
    go_enter Try.func29, Try.ntmps29
    go_wp2_with fail
    refine (hio).mono ?_
    rintro _ _ ⟨rfl, hw⟩
    rw [hw]
    clear hw
    go_wp2_with fail
    go_ret
    exact ⟨by trivial, HF2.out, (Chg.refl _ _).setCell (Or.inl (by simp)) _ _⟩
end Go.Proofs.Ytbiadhgkpggdeaa
