/- frames: how the counts turn; Hold. -/
import Derived.Test.YtlchlklbjocliaaDoorFrC
namespace Go.Proofs.YtlchlklbjocliaaDoor
open Go Go.RowKit
set_option linter.unusedSimpArgs false
set_option linter.unusedVariables false
set_option maxRecDepth 100000
theorem tmF_at {n j : Nat} {T : Nat → Nat} (hj : j < n) : tmF n T (j : Int) = if 0 < T j then some (T j : Int) else none := by
  unfold tmF
  by_cases h : 0 < T j
  · rw [if_pos ⟨by omega, by omega, by rw [Int.toNat_natCast]; exact h⟩, if_pos h, Int.toNat_natCast]
  · rw [if_neg (fun hh => h (by have := hh.2.2; rwa [Int.toNat_natCast] at this)), if_neg h]
theorem tmF_put {n j v : Nat} {T : Nat → Nat} (hj : j < n) (hv : 0 < v) : tmF n (upF T j v) = imUpd (tmF n T) (j : Int) (v : Int) := by
  funext x
  unfold imUpd
  by_cases hx : x = (j : Int)
  · subst hx
    rw [if_pos rfl, tmF_at hj, upF_same, if_pos hv]
  · rw [if_neg hx]
    unfold tmF
    by_cases h0 : 0 ≤ x
    · have hne : x.toNat ≠ j := by omega
      rw [upF_ne _ _ hne]
    · rw [if_neg (fun h => h0 h.1), if_neg (fun h => h0 h.1)]
theorem tmF_del {n j : Nat} {T : Nat → Nat} (hj : j < n) : tmF n (upF T j 0) = imDel (tmF n T) (j : Int) := by
  funext x
  unfold imDel
  by_cases hx : x = (j : Int)
  · subst hx
    rw [if_pos rfl, tmF_at hj, upF_same]; rfl
  · rw [if_neg hx]
    unfold tmF
    by_cases h0 : 0 ≤ x
    · have hne : x.toNat ≠ j := by omega
      rw [upF_ne _ _ hne]
    · rw [if_neg (fun h => h0 h.1), if_neg (fun h => h0 h.1)]
theorem heldC_same {n j v : Nat} {T : Nat → Nat} (hT : 0 < T j) (hv : 0 < v) : heldC n (upF T j v) = heldC n T :=
  cn_congr fun i _ => by
    by_cases e : i = j
    · rw [e, upF_same]; simp [hT, hv]
    · rw [upF_ne _ _ e]
theorem heldC_new {n j v : Nat} {T : Nat → Nat} (hj : j < n) (hT : T j = 0) (hv : 0 < v) : heldC n (upF T j v) = heldC n T + 1 :=
  cn_add hj (fun i _ e => by rw [upF_ne _ _ e]) (by simp [hT]) (by rw [upF_same]; simp [hv])
theorem heldC_del {n j : Nat} {T : Nat → Nat} (hj : j < n) (hT : 0 < T j) : heldC n T = heldC n (upF T j 0) + 1 :=
  cn_add hj (fun i _ e => by rw [upF_ne _ _ e]) (by rw [upF_same]; rfl) (by simp [hT])
theorem ownC_same {n j v : Nat} {T O : Nat → Nat} (hT : 0 < T j) (hv : 0 < v) : ownC n (upF T j v) O = ownC n T O := by
  funext o
  exact cn_congr fun i _ => by
    by_cases e : i = j
    · rw [e, upF_same]; simp [hT, hv]
    · rw [upF_ne _ _ e]
theorem ownC_new {n j v o : Nat} {T O : Nat → Nat} (hj : j < n) (hT : T j = 0) (hv : 0 < v) : ownC n (upF T j v) (upF O j o) = upF (ownC n T O) o (ownC n T O o + 1) := by
  funext k
  by_cases e : k = o
  · subst e
    rw [upF_same]
    exact cn_add hj (fun i _ e => by rw [upF_ne _ _ e, upF_ne _ _ e]) (by simp [hT]) (by rw [upF_same, upF_same]; simp [hv])
  · rw [upF_ne _ _ e]
    refine cn_congr fun i _ => ?_
    by_cases e2 : i = j
    · subst e2; rw [upF_same, upF_same]; simp [hT]; omega
    · rw [upF_ne _ _ e2, upF_ne _ _ e2]
theorem ownC_del {n j o : Nat} {T O : Nat → Nat} (hj : j < n) (hT : 0 < T j) (hO : O j = o) : ownC n (upF T j 0) O = upF (ownC n T O) o (ownC n T O o - 1) := by
  funext k
  by_cases e : k = o
  · subst e
    rw [upF_same]
    have : ownC n T O k = ownC n (upF T j 0) O k + 1 := cn_add hj (fun i _ e => by rw [upF_ne _ _ e]) (by rw [upF_same]; rfl) (by simp [hT, hO])
    omega
  · rw [upF_ne _ _ e]
    refine cn_congr fun i _ => ?_
    by_cases e2 : i = j
    · subst e2; rw [upF_same]; simp; omega
    · rw [upF_ne _ _ e2]
theorem ownC_del1 {n j o : Nat} {T O : Nat → Nat} (hj : j < n) (hT : 0 < T j) (hO : O j = o) : 1 ≤ ownC n T O o := by
  have : ownC n T O o = ownC n (upF T j 0) O o + 1 := cn_add hj (fun i _ e => by rw [upF_ne _ _ e]) (by rw [upF_same]; rfl) (by simp [hT, hO])
  omega
theorem ownC_le {n o : Nat} {T O : Nat → Nat} : ownC n T O o ≤ n := cn_le
theorem upF_self {f : Nat → Nat} {i v : Nat} (h : f i = v) : upF f i v = f := by
  funext j; unfold upF; split
  · rename_i hj; rw [hj, h]
  · rfl
theorem ownC_move {n j a b : Nat} {T O : Nat → Nat} (hj : j < n) (hT : 0 < T j) (hO : O j = a) : ownC n T (upF O j b) = upF (upF (ownC n T O) a (ownC n T O a - 1)) b (upF (ownC n T O) a (ownC n T O a - 1) b + 1) := by
  have h1 := ownC_del (o := a) (T := T) (O := O) hj hT hO
  have h2 := ownC_new (n := n) (v := T j) (o := b) (T := upF T j 0) (O := O) hj (upF_same _ _ _) hT
  have h3 : upF (upF T j 0) j (T j) = T := by
    funext i; unfold upF
    by_cases e : i = j
    · rw [if_pos e, e]
    · rw [if_neg e, if_neg e]
  rw [h3] at h2
  rw [h2, h1]
theorem Hold_bad {w : World} {p bt bw n first low : Nat} {T O : Nat → Nat} {quo : Nat → Int} (h : FrAt w p bt bw n first T O quo low) (x who : Int) (he : wrE n T O x who (if isOwn who then 0 else 2) ≠ 0) :
    Calls Tryd.prog 41 #[.pointer (some ⟨p, 0, none⟩), .int .i64 x, .int .i64 who] w fun r w' => r = .returned (.int .i64 (wrE n T O x who (if isOwn who then 0 else 2))) ∧ Grows w w' := by
  have hg : Grows w (w.alloc (Obj.cells #[.int .i64 who] 3)) := (Grows.refl _).alloc _
  have hr : Row (w.alloc (Obj.cells #[.int .i64 who] 3)) w.heap.size #[.int .i64 who] 3 := Row.new w _ _
  have ho := wrong_gen (h.grows hg) x who _ (by omega) (by omega) (owned_1 (h.grows hg) who (hr.cell 0)) (hr.cell 0) hr.lt
  generalize wrE n T O x who (if isOwn who then 0 else 2) = e at *
  have hb : (e != 0) = true := by simp; exact he
  clear h he hr
  go_enter Tryd.func41, Tryd.ntmps41
  go_wp2_with fail
  refine ho.mono ?_
  rintro _ w2 ⟨rfl, hg2⟩
  go_wp2_with fail
  go_ret
  exact ⟨rfl, hg.trans hg2⟩
theorem Hold_full {w : World} {p bt bw n first low j o : Nat} {T O : Nat → Nat} {quo : Nat → Int} (h : FrAt w p bt bw n first T O quo low) (hj : j < n) (hT : 65536 ≤ T j) (hO : O j = o) :
    Calls Tryd.prog 41 #[.pointer (some ⟨p, 0, none⟩), .int .i64 j, .int .i64 o] w fun r w' => r = .returned (.int .i64 18) ∧ Grows w w' := by
  have ho17 := h.ob j hj (by omega)
  have hg : Grows w (w.alloc (Obj.cells #[.int .i64 o] 3)) := (Grows.refl _).alloc _
  have hr : Row (w.alloc (Obj.cells #[.int .i64 o] 3)) w.heap.size #[.int .i64 o] 3 := Row.new w _ _
  have ho := wrong_gen (h.grows hg) j o _ (by omega) (by omega) (owned_1 (h.grows hg) o (hr.cell 0)) (hr.cell 0) hr.lt
  have hE : wrE n T O j o (if isOwn (o : Int) then 0 else 2) = 0 := by
    rw [if_pos (show isOwn (o : Int) from ⟨by omega, by omega⟩)]
    unfold wrE; rw [if_neg (by simp), if_neg (by omega), Int.toNat_natCast, if_neg (by omega)]
  rw [hE] at ho
  have HH := Lib.hid h
  have dT : decide ((65536 : Int) ≤ (T j : Int)) = true := decide_eq_true (by omega)
  clear h hr hE
  go_enter Tryd.func41, Tryd.ntmps41
  go_wp2_with fail
  refine ho.mono ?_
  rintro _ w2 ⟨rfl, hg2⟩
  have H2 := Lib.hid (HH.out.grows (hg.trans hg2))
  obtain ⟨c0, c1, c2, c3, c4⟩ := H2.out.row.cells
  have ht := H2.out.look_tj hj
  have HG := Lib.hid (hg.trans hg2)
  generalize T j = tj at *
  clear ho hg hg2
  go_wp2_with fail
  go_ret
  exact ⟨rfl, HG.out⟩
theorem FrAt.wh_chg {w w' : World} {S : List Nat} {bw n first : Nat} {T T' O : Nat → Nat} (hc : Chg S w w') (hb : bw ∉ S) (hl : bw < w.heap.size) (hh : heldC n T' = heldC n T) (hp : ∀ j, j < n → (0 < T' j ↔ 0 < T j))
    (h : ∃ s g, s ≤ heldC n T ∧ IMap Tryd.prog 3 3 w bw s g ∧ (∀ j, j < n → 0 < T j → (g j).getD 0 = O j) ∧ (∀ j : Nat, first ≤ j → j < n → 0 < T j → (g j).isSome) ∧ (∀ x : Int, ¬ (0 ≤ x ∧ x < n ∧ 0 < T x.toNat) → g x = none)) :
    ∃ s g, s ≤ heldC n T' ∧ IMap Tryd.prog 3 3 w' bw s g ∧ (∀ j, j < n → 0 < T' j → (g j).getD 0 = O j) ∧ (∀ j : Nat, first ≤ j → j < n → 0 < T' j → (g j).isSome) ∧ (∀ x : Int, ¬ (0 ≤ x ∧ x < n ∧ 0 < T' x.toNat) → g x = none) := by
  obtain ⟨s, g, g1, g2, g3, g4, g5⟩ := h
  refine ⟨s, g, by omega, g2.of_block (hc.get hl hb), fun j hj ht => g3 j hj ((hp j hj).1 ht), fun j hf hj ht => g4 j hf hj ((hp j hj).1 ht), fun x hx => g5 x (fun hh => hx ⟨hh.1, hh.2.1, (hp _ (by omega)).2 hh.2.2⟩)⟩
theorem Chg.of_grown {w w' : World} {b : Nat} (h : w.grownBy w' (some b)) : Chg [b] w w' := Chg.grownBy (Chg.refl _ _) h (fun k hk => Or.inl (by injection hk with hk; simp [hk]))
theorem Hold_ok {w : World} {p bt bw n first low j o : Nat} {T O : Nat → Nat} {quo : Nat → Int} (h : FrAt w p bt bw n first T O quo low) (hj : j < n) (hT : T j < 65536) (hT0 : 0 < T j) (hO : O j = o) :
    Calls Tryd.prog 41 #[.pointer (some ⟨p, 0, none⟩), .int .i64 j, .int .i64 o] w fun r w' => r = .returned (.int .i64 0) ∧ FrAt w' p bt bw n first (upF T j (T j + 1)) O quo low ∧ Chg [p, bt, bw] w w' := by
  have ho17 := h.ob j hj (by omega)
  have hg : Grows w (w.alloc (Obj.cells #[.int .i64 o] 3)) := (Grows.refl _).alloc _
  have hr : Row (w.alloc (Obj.cells #[.int .i64 o] 3)) w.heap.size #[.int .i64 o] 3 := Row.new w _ _
  have ho := wrong_gen (h.grows hg) j o _ (by omega) (by omega) (owned_1 (h.grows hg) o (hr.cell 0)) (hr.cell 0) hr.lt
  have hE : wrE n T O j o (if isOwn (o : Int) then 0 else 2) = 0 := by
    rw [if_pos (show isOwn (o : Int) from ⟨by omega, by omega⟩)]
    unfold wrE; rw [if_neg (by simp), if_neg (by omega), Int.toNat_natCast, if_neg (by omega)]
  rw [hE] at ho
  have HH := Lib.hid h
  have dT : decide ((65536 : Int) ≤ (T j : Int)) = false := decide_eq_false (by omega)
  have hn2 := h.n2
  clear h hr hE
  go_enter Tryd.func41, Tryd.ntmps41
  go_wp2_with fail
  refine ho.mono ?_
  rintro _ w2 ⟨rfl, hg2⟩
  have H2 := Lib.hid (HH.out.grows (hg.trans hg2))
  have HG := Lib.hid (hg.trans hg2)
  obtain ⟨c0, c1, c2, c3, c4⟩ := H2.out.row.cells
  have ht := H2.out.look_tj hj
  obtain ⟨w3, hrun, hI, hgr⟩ := H2.out.tm.update Tryd.underlying3 Tryd.underlying3 Tryd.underlying29 (by have : heldC n T ≤ n := cn_le; unfold maxLen; omega) (K := (j : Int)) (V := ((T j + 1 : Nat) : Int)) (wf_of (by omega) (by omega)) (wf_of (by omega) (by omega))
  have hw1 : IntKind.i64.wrap ((T j : Int) + 1) = ((T j + 1 : Nat) : Int) := by rw [IntKind.wrap_i64]; omega
  have e1 : ((T j + 1 : Nat) : Int) = (T j : Int) + 1 := by omega
  rw [e1] at hrun
  have HI := Lib.hid hI
  have HGR := Lib.hid hgr
  have HT := Lib.hid hT0
  have HTL := Lib.hid hT
  have HJ := Lib.hid hj
  clear ho hg hg2 hI hgr e1 hw1
  obtain ⟨tj, htj⟩ : ∃ tj, tj = T j := ⟨_, rfl⟩
  rw [← htj] at ht hrun dT hT
  have HTJ := Lib.hid htj
  clear htj hT0
  go_wp2_with fail
  go_ret
  have hc := Chg.of_grown HGR.out
  have hne := H2.out.ne
  have h1 := HI.out
  rw [tmF_at hj, if_pos HT.out] at h1
  have h2 : IMap Tryd.prog 3 3 w3 bt (heldC n (upF T j (T j + 1))) (tmF n (upF T j (T j + 1))) := by
    rw [heldC_same HT.out (by omega), tmF_put hj (by omega)]; exact h1
  refine ⟨rfl, ⟨by rw [ownC_same HT.out (by omega)]; exact H2.out.row.chg hc (by simp; omega), h2, ?_, H2.out.n1, H2.out.n2, H2.out.fl, H2.out.lo, fun i hi => ?_, fun i hi ht => ?_, fun i hi => ?_, hne⟩, (Chg.of_grows HG.out).trans (hc.weaken (by simp))⟩
  · obtain ⟨s, g, _, g2, _⟩ := H2.out.wh
    refine FrAt.wh_chg hc (by simp; omega) g2.lt (heldC_same HT.out (by omega)) (fun i hi => ?_) H2.out.wh
    by_cases e : i = j
    · rw [e, upF_same]; have := HT.out; omega
    · rw [upF_ne _ _ e]
  · by_cases e : i = j
    · rw [e, upF_same]; omega
    · rw [upF_ne _ _ e]; exact H2.out.below i hi
  · by_cases e : i = j
    · rw [e]; exact H2.out.ob j hj HT.out
    · rw [upF_ne _ _ e] at ht; exact H2.out.ob i hi ht
  · by_cases e : i = j
    · rw [e, upF_same]; have := HTL.out; omega
    · rw [upF_ne _ _ e]; exact H2.out.tb i hi
end Go.Proofs.YtlchlklbjocliaaDoor
