/- Whose the frames of a guest's tables and pages are: plain facts; the tables, memory and frames together. -/
import Derived.Test.YtlchlklbjocliaaDoorGs
namespace Go.Proofs.YtlchlklbjocliaaDoor
open Go Go.RowKit
set_option linter.unusedSimpArgs false
set_option linter.unusedVariables false
set_option maxRecDepth 100000
/-- Is a page the frame f? -/
def isFr (f : Nat) : Option Pg → Bool
  | some g => decide (g.fr = f)
  | none => false
theorem isFr_some (f : Nat) (g : Pg) : isFr f (some g) = decide (g.fr = f) := rfl
theorem isFr_none (f : Nat) : isFr f none = false := rfl
/-- How many pages below m are the frame f. -/
def mapsN (m : Nat) (G : GS) (f : Nat) : Nat := cn (fun p => isFr f (G.pg p)) m
theorem mapsN_add {m : Nat} {G : GS} {p : Nat} {g : Pg} (hp : p < m) (h : G.pg p = none) (f : Nat) : mapsN m (G.set p (some g)) f = mapsN m G f + if f = g.fr then 1 else 0 := by
  unfold mapsN
  by_cases e : f = g.fr
  · rw [if_pos e]
    refine cn_add (i := p) hp (fun j hj hn => ?_) ?_ ?_
    · rw [GS.set_ne _ _ hn]
    · rw [h]; rfl
    · rw [GS.set_same, isFr_some]; simp [e]
  · rw [if_neg e]
    refine cn_congr fun i hi => ?_
    by_cases e2 : i = p
    · subst e2; rw [GS.set_same, h, isFr_some, isFr_none]; simp; exact fun hh => e hh.symm
    · rw [GS.set_ne _ _ e2]
theorem mapsN_del {m : Nat} {G : GS} {p : Nat} {g : Pg} (hp : p < m) (h : G.pg p = some g) (f : Nat) : mapsN m G f = mapsN m (G.set p none) f + if f = g.fr then 1 else 0 := by
  unfold mapsN
  by_cases e : f = g.fr
  · rw [if_pos e]
    refine cn_add (i := p) hp (fun j hj hn => ?_) ?_ ?_
    · rw [GS.set_ne _ _ hn]
    · rw [GS.set_same]; rfl
    · rw [h, isFr_some]; simp [e]
  · rw [if_neg e]
    refine cn_congr fun i hi => ?_
    by_cases e2 : i = p
    · subst e2; rw [GS.set_same, h, isFr_some, isFr_none]; simp; exact fun hh => e hh.symm
    · rw [GS.set_ne _ _ e2]
theorem mapsN_keep {m : Nat} {G : GS} {p : Nat} {g g' : Pg} (h : G.pg p = some g) (hf : g'.fr = g.fr) (f : Nat) : mapsN m (G.set p (some g')) f = mapsN m G f := by
  unfold mapsN
  refine cn_congr fun i hi => ?_
  by_cases e2 : i = p
  · subst e2; rw [GS.set_same, h, isFr_some, isFr_some, hf]
  · rw [GS.set_ne _ _ e2]
theorem mapsN_pos {m : Nat} {G : GS} {p : Nat} {g : Pg} (hp : p < m) (h : G.pg p = some g) : 1 ≤ mapsN m G g.fr :=
  cn_pos (i := p) hp (by rw [h, isFr_some]; simp)
theorem mapsN_none {m : Nat} {G : GS} {f : Nat} (h : ∀ p, p < m → isFr f (G.pg p) = false) : mapsN m G f = 0 := cn_none h
theorem mapsN_le (m : Nat) (G : GS) (f : Nat) : mapsN m G f ≤ m := cn_le
/-- How many pages are the frame f. -/
def mapsOf (G : GS) (f : Nat) : Nat := mapsN 1024 G f
theorem mapsOf_setLw (G : GS) (k : Nat) (v : Option Nat) : mapsOf (G.setLw k v) = mapsOf G := rfl
theorem mapsOf_add {G : GS} {p : Nat} {g : Pg} (hp : p < 1024) (h : G.pg p = none) (f : Nat) : mapsOf (G.set p (some g)) f = mapsOf G f + if f = g.fr then 1 else 0 := mapsN_add hp h f
theorem mapsOf_del {G : GS} {p : Nat} {g : Pg} (hp : p < 1024) (h : G.pg p = some g) (f : Nat) : mapsOf G f = mapsOf (G.set p none) f + if f = g.fr then 1 else 0 := mapsN_del hp h f
theorem mapsOf_keep {G : GS} {p : Nat} {g g' : Pg} (h : G.pg p = some g) (hf : g'.fr = g.fr) (f : Nat) : mapsOf (G.set p (some g')) f = mapsOf G f := mapsN_keep h hf f
theorem mapsOf_pos {G : GS} {p : Nat} {g : Pg} (hp : p < 1024) (h : G.pg p = some g) : 1 ≤ mapsOf G g.fr := mapsN_pos hp h
theorem mapsOf_none {G : GS} {f : Nat} (h : ∀ p, p < 1024 → isFr f (G.pg p) = false) : mapsOf G f = 0 := mapsN_none h
theorem mapsOf_le (G : GS) (f : Nat) : mapsOf G f ≤ 1024 := mapsN_le 1024 G f
theorem mapsOf_zero {G : GS} {f : Nat} (h : mapsOf G f = 0) {p : Nat} {g : Pg} (hp : p < 1024) (hg : G.pg p = some g) : g.fr ≠ f := by
  intro e
  have := mapsOf_pos hp hg
  rw [e] at this; omega
/-- Times and owners of the frames of one guest's root, lower tables and pages; E: how often a frame is had besides its pages. -/
structure FsAt (n first o rt : Nat) (T O E : Nat → Nat) (G : GS) : Prop where
  og : 1 ≤ o ∧ o ≤ 16
  root : rt < n ∧ first ≤ rt ∧ T rt = 1 ∧ O rt = 0
  tab : ∀ k t, k < 32 → G.lw k = some t → t < n ∧ first ≤ t ∧ T t = 1 ∧ O t = 0
  pgs : ∀ p g, p < 1024 → G.pg p = some g → g.fr < n ∧ 0 < T g.fr ∧ O g.fr = o
  own : ∀ f, f < n → 0 < T f → O f = o → first ≤ f ∧ T f = E f + mapsOf G f ∧ 1 ≤ E f
/-- A guest's frames stay as they are where only others' turn. -/
theorem FsAt.foreign {n first o rt : Nat} {T O E T' O' : Nat → Nat} {G : GS} (h : FsAt n first o rt T O E G) (h1 : ∀ f, f < n → (0 < T f ∧ O f = o ∨ f = rt ∨ ∃ k, k < 32 ∧ G.lw k = some f) → T' f = T f ∧ O' f = O f) (h2 : ∀ f, f < n → 0 < T' f → O' f = o → 0 < T f ∧ O f = o) : FsAt n first o rt T' O' E G := by
  refine ⟨h.og, ?_, fun k t hk hl => ?_, fun p g hp hg => ?_, fun f hf hT hO => ?_⟩
  · obtain ⟨r1, r2, r3, r4⟩ := h.root
    obtain ⟨e1, e2⟩ := h1 rt r1 (Or.inr (Or.inl rfl))
    exact ⟨r1, r2, by rw [e1]; exact r3, by rw [e2]; exact r4⟩
  · obtain ⟨r1, r2, r3, r4⟩ := h.tab k t hk hl
    obtain ⟨e1, e2⟩ := h1 t r1 (Or.inr (Or.inr ⟨k, hk, hl⟩))
    exact ⟨r1, r2, by rw [e1]; exact r3, by rw [e2]; exact r4⟩
  · obtain ⟨r1, r2, r3⟩ := h.pgs p g hp hg
    obtain ⟨e1, e2⟩ := h1 g.fr r1 (Or.inl ⟨r2, r3⟩)
    exact ⟨r1, by rw [e1]; exact r2, by rw [e2]; exact r3⟩
  · obtain ⟨g1, g2⟩ := h2 f hf hT hO
    obtain ⟨e1, e2⟩ := h1 f hf (Or.inl ⟨g1, g2⟩)
    obtain ⟨r1, r2, r3⟩ := h.own f hf g1 g2
    exact ⟨r1, by rw [e1]; exact r2, r3⟩
/-- The guest's frame j is mapped at a page more. -/
theorem FsAt.mapped {n first o rt : Nat} {T O E : Nat → Nat} {G : GS} (h : FsAt n first o rt T O E G) {p j : Nat} {g : Pg} (hp : p < 1024) (hn : G.pg p = none) (hj : j < n) (hT : 0 < T j) (hO : O j = o) (hg : g.fr = j) : FsAt n first o rt (upF T j (T j + 1)) O E (G.set p (some g)) := by
  have hne : ∀ f, O f = 0 → f ≠ j := fun f hf e => by rw [e, hO] at hf; have := h.og; omega
  refine ⟨h.og, ?_, fun k t hk hl => ?_, fun p' g' hp' hg' => ?_, fun f hf hT' hO' => ?_⟩
  · obtain ⟨r1, r2, r3, r4⟩ := h.root
    exact ⟨r1, r2, by rw [upF_ne _ _ (hne _ r4)]; exact r3, r4⟩
  · obtain ⟨r1, r2, r3, r4⟩ := h.tab k t hk hl
    exact ⟨r1, r2, by rw [upF_ne _ _ (hne _ r4)]; exact r3, r4⟩
  · by_cases e : p' = p
    · subst e
      rw [GS.set_same] at hg'
      injection hg' with hg'
      subst hg'
      rw [hg, upF_same]
      exact ⟨hj, by omega, hO⟩
    · rw [GS.set_ne _ _ e] at hg'
      obtain ⟨r1, r2, r3⟩ := h.pgs p' g' hp' hg'
      refine ⟨r1, ?_, r3⟩
      unfold upF; split <;> omega
  · have hTf : 0 < T f := by
      by_cases e : f = j
      · rw [e]; exact hT
      · rw [upF_ne _ _ e] at hT'; exact hT'
    obtain ⟨r1, r2, r3⟩ := h.own f hf hTf hO'
    refine ⟨r1, ?_, r3⟩
    rw [mapsOf_add hp hn, hg]
    by_cases e : f = j
    · rw [if_pos e]; subst e; rw [upF_same]; omega
    · rw [if_neg e, upF_ne _ _ e]; omega
/-- A page is taken away. -/
theorem FsAt.unmapped {n first o rt : Nat} {T O E : Nat → Nat} {G : GS} (h : FsAt n first o rt T O E G) {p : Nat} {g : Pg} (hp : p < 1024) (hg : G.pg p = some g) : FsAt n first o rt (upF T g.fr (T g.fr - 1)) O E (G.set p none) ∧ 2 ≤ T g.fr := by
  obtain ⟨j1, j2, j3⟩ := h.pgs p g hp hg
  have hne : ∀ f, O f = 0 → f ≠ g.fr := fun f hf e => by rw [e, j3] at hf; have := h.og; omega
  obtain ⟨m1, m2, m3⟩ := h.own g.fr j1 j2 j3
  have mp := mapsOf_pos hp hg
  refine ⟨⟨h.og, ?_, fun k t hk hl => ?_, fun p' g' hp' hg' => ?_, fun f hf hT' hO' => ?_⟩, by omega⟩
  · obtain ⟨r1, r2, r3, r4⟩ := h.root
    exact ⟨r1, r2, by rw [upF_ne _ _ (hne _ r4)]; exact r3, r4⟩
  · obtain ⟨r1, r2, r3, r4⟩ := h.tab k t hk hl
    exact ⟨r1, r2, by rw [upF_ne _ _ (hne _ r4)]; exact r3, r4⟩
  · by_cases e : p' = p
    · subst e
      rw [GS.set_same] at hg'
      cases hg'
    · rw [GS.set_ne _ _ e] at hg'
      obtain ⟨r1, r2, r3⟩ := h.pgs p' g' hp' hg'
      refine ⟨r1, ?_, r3⟩
      unfold upF; split <;> omega
  · have hTf : 0 < T f := by
      by_cases e : f = g.fr
      · rw [e]; exact j2
      · rw [upF_ne _ _ e] at hT'; exact hT'
    obtain ⟨r1, r2, r3⟩ := h.own f hf hTf hO'
    refine ⟨r1, ?_, r3⟩
    rw [mapsOf_del hp hg f] at r2
    by_cases e : f = g.fr
    · rw [if_pos e] at r2; rw [e, upF_same]; rw [e] at r2; omega
    · rw [if_neg e] at r2; rw [upF_ne _ _ e]; omega
/-- A page's rights are others. -/
theorem FsAt.protected {n first o rt : Nat} {T O E : Nat → Nat} {G : GS} (h : FsAt n first o rt T O E G) {p : Nat} {g g' : Pg} (hp : p < 1024) (hg : G.pg p = some g) (hf : g'.fr = g.fr) : FsAt n first o rt T O E (G.set p (some g')) := by
  refine ⟨h.og, h.root, h.tab, fun p' g1 hp' hg' => ?_, fun f hf' hT' hO' => ?_⟩
  · by_cases e : p' = p
    · subst e
      rw [GS.set_same] at hg'
      injection hg' with hg'
      subst hg'
      rw [hf]
      exact h.pgs p' g hp' hg
    · rw [GS.set_ne _ _ e] at hg'
      exact h.pgs p' g1 hp' hg'
  · rw [mapsOf_keep hg hf]
    exact h.own f hf' hT' hO'
/-- A lower table is made of a frame that was nobody's. -/
theorem FsAt.tabled {n first o rt : Nat} {T O E : Nat → Nat} {G : GS} (h : FsAt n first o rt T O E G) {k t : Nat} (ht : t < n) (hT : T t = 0) (hf : first ≤ t) : FsAt n first o rt (upF T t 1) (upF O t 0) E (G.setLw k (some t)) := by
  have hne : ∀ f, 0 < T f → f ≠ t := fun f hf e => by rw [e, hT] at hf; omega
  refine ⟨h.og, ?_, fun k' t' hk hl => ?_, fun p' g' hp' hg' => ?_, fun f hf' hT' hO' => ?_⟩
  · obtain ⟨r1, r2, r3, r4⟩ := h.root
    have := hne rt (by omega)
    exact ⟨r1, r2, by rw [upF_ne _ _ this]; exact r3, by rw [upF_ne _ _ this]; exact r4⟩
  · by_cases e : k' = k
    · subst e
      rw [GS.setLw_same] at hl
      injection hl with hl
      subst hl
      exact ⟨ht, hf, upF_same _ _ _, upF_same _ _ _⟩
    · rw [GS.setLw_ne _ _ e] at hl
      obtain ⟨r1, r2, r3, r4⟩ := h.tab k' t' hk hl
      have := hne t' (by omega)
      exact ⟨r1, r2, by rw [upF_ne _ _ this]; exact r3, by rw [upF_ne _ _ this]; exact r4⟩
  · obtain ⟨r1, r2, r3⟩ := h.pgs p' g' hp' hg'
    have := hne g'.fr r2
    exact ⟨r1, by rw [upF_ne _ _ this]; exact r2, by rw [upF_ne _ _ this]; exact r3⟩
  · by_cases e : f = t
    · rw [e, upF_same] at hO'; have := h.og; omega
    · rw [upF_ne _ _ e] at hT' hO'
      rw [upF_ne _ _ e]
      exact h.own f hf' hT' hO'
/-- A lower table without pages is let go. -/
theorem FsAt.untabled {n first o rt : Nat} {T O E : Nat → Nat} {G : GS} (h : FsAt n first o rt T O E G) {k t : Nat} (hk : k < 32) (hl : G.lw k = some t) (htr : t ≠ rt) (hinj : ∀ k', k' < 32 → G.lw k' = some t → k' = k) : FsAt n first o rt (upF T t 0) O E (G.setLw k none) := by
  obtain ⟨t1, t2, t3, t4⟩ := h.tab k t hk hl
  refine ⟨h.og, ?_, fun k' t' hk' hl' => ?_, fun p' g' hp' hg' => ?_, fun f hf' hT' hO' => ?_⟩
  · obtain ⟨r1, r2, r3, r4⟩ := h.root
    exact ⟨r1, r2, by rw [upF_ne _ _ (fun e => htr e.symm)]; exact r3, r4⟩
  · by_cases e : k' = k
    · subst e; rw [GS.setLw_same] at hl'; cases hl'
    · rw [GS.setLw_ne _ _ e] at hl'
      obtain ⟨r1, r2, r3, r4⟩ := h.tab k' t' hk' hl'
      have : t' ≠ t := fun e2 => e (hinj k' hk' (by rw [← e2]; exact hl'))
      exact ⟨r1, r2, by rw [upF_ne _ _ this]; exact r3, r4⟩
  · obtain ⟨r1, r2, r3⟩ := h.pgs p' g' hp' hg'
    have : g'.fr ≠ t := fun e => by rw [e, t4] at r3; have := h.og; omega
    exact ⟨r1, by rw [upF_ne _ _ this]; exact r2, r3⟩
  · by_cases e : f = t
    · rw [e, t4] at hO'; have := h.og; omega
    · rw [upF_ne _ _ e] at hT'
      rw [upF_ne _ _ e]
      exact h.own f hf' hT' hO'
/-- A frame that was nobody's becomes the guest's. -/
theorem FsAt.given {n first o rt : Nat} {T O E : Nat → Nat} {G : GS} (h : FsAt n first o rt T O E G) {j : Nat} (hj : j < n) (hT : T j = 0) (hf : first ≤ j) (hE : E j = 1) : FsAt n first o rt (upF T j 1) (upF O j o) E G ∧ mapsOf G j = 0 := by
  have hne : ∀ f, 0 < T f → f ≠ j := fun f hf e => by rw [e, hT] at hf; omega
  have hm : mapsOf G j = 0 := mapsOf_none fun p hp => by
    show isFr j (G.pg p) = false
    cases hg : G.pg p with
    | none => rfl
    | some g =>
      obtain ⟨r1, r2, r3⟩ := h.pgs p g hp hg
      have := hne g.fr r2
      unfold isFr; simp [this]
  refine ⟨⟨h.og, ?_, fun k' t' hk hl => ?_, fun p' g' hp' hg' => ?_, fun f hf' hT' hO' => ?_⟩, hm⟩
  · obtain ⟨r1, r2, r3, r4⟩ := h.root
    have := hne rt (by omega)
    exact ⟨r1, r2, by rw [upF_ne _ _ this]; exact r3, by rw [upF_ne _ _ this]; exact r4⟩
  · obtain ⟨r1, r2, r3, r4⟩ := h.tab k' t' hk hl
    have := hne t' (by omega)
    exact ⟨r1, r2, by rw [upF_ne _ _ this]; exact r3, by rw [upF_ne _ _ this]; exact r4⟩
  · obtain ⟨r1, r2, r3⟩ := h.pgs p' g' hp' hg'
    have := hne g'.fr r2
    exact ⟨r1, by rw [upF_ne _ _ this]; exact r2, by rw [upF_ne _ _ this]; exact r3⟩
  · by_cases e : f = j
    · subst e; rw [upF_same]; exact ⟨hf, by rw [hE, hm], by omega⟩
    · rw [upF_ne _ _ e] at hT' hO'
      rw [upF_ne _ _ e]
      exact h.own f hf' hT' hO'
/-- A frame of the guest's that is no page is let go. -/
theorem FsAt.freed {n first o rt : Nat} {T O E : Nat → Nat} {G : GS} (h : FsAt n first o rt T O E G) {j : Nat} (hj : j < n) (hT : T j = 1) (hO : O j = o) : FsAt n first o rt (upF T j 0) O E G := by
  obtain ⟨m1, m2, m3⟩ := h.own j hj (by omega) hO
  have hne : ∀ f, O f = 0 → f ≠ j := fun f hf e => by rw [e, hO] at hf; have := h.og; omega
  refine ⟨h.og, ?_, fun k' t' hk hl => ?_, fun p' g' hp' hg' => ?_, fun f hf' hT' hO' => ?_⟩
  · obtain ⟨r1, r2, r3, r4⟩ := h.root
    exact ⟨r1, r2, by rw [upF_ne _ _ (hne _ r4)]; exact r3, r4⟩
  · obtain ⟨r1, r2, r3, r4⟩ := h.tab k' t' hk hl
    exact ⟨r1, r2, by rw [upF_ne _ _ (hne _ r4)]; exact r3, r4⟩
  · obtain ⟨r1, r2, r3⟩ := h.pgs p' g' hp' hg'
    have : g'.fr ≠ j := mapsOf_zero (f := j) (by omega) hp' hg'
    exact ⟨r1, by rw [upF_ne _ _ this]; exact r2, r3⟩
  · by_cases e : f = j
    · rw [e, upF_same] at hT'; omega
    · rw [upF_ne _ _ e] at hT'
      rw [upF_ne _ _ e]
      exact h.own f hf' hT' hO'
/-- Owners of frames that are nobody's do not count. -/
theorem FsAt.owners {n first o rt : Nat} {T O O' E : Nat → Nat} {G : GS} (h : FsAt n first o rt T O E G) (hO : ∀ f, 0 < T f → O' f = O f) : FsAt n first o rt T O' E G :=
  h.foreign (fun f hf hh => ⟨rfl, hO f (by
    rcases hh with hh | hh | ⟨k, hk, hh⟩
    · exact hh.1
    · rw [hh, h.root.2.2.1]; omega
    · rw [(h.tab k f hk hh).2.2.1]; omega)⟩) (fun f hf hT hO' => ⟨hT, by rw [← hO f hT]; exact hO'⟩)
/-- A fresh guest. -/
theorem FsAt.empty {n first o rt : Nat} {T O E : Nat → Nat} (ho : 1 ≤ o ∧ o ≤ 16) (hr : rt < n ∧ first ≤ rt ∧ T rt = 1 ∧ O rt = 0) (hn : ∀ f, f < n → 0 < T f → O f ≠ o) : FsAt n first o rt T O E GS.empty :=
  ⟨ho, hr, fun _ _ _ h => (by cases h), fun _ _ _ h => (by cases h), fun f hf hT hO => absurd hO (hn f hf hT)⟩
theorem ownC_zero_lt {n j : Nat} {T O : Nat → Nat} (hj : j < n) (h : T j = 0 ∨ O j ≠ 0) : ownC n T O 0 < n := by
  unfold ownC
  have h1 := cn_add (p := fun i => decide (0 < T i ∧ O i = 0)) (q := fun i => if i = j then true else decide (0 < T i ∧ O i = 0)) hj (fun i _ hi => by rw [if_neg hi]) (by simp; omega) (by simp)
  have h2 := cn_le (p := fun i => if i = j then true else decide (0 < T i ∧ O i = 0)) (n := n)
  omega
end Go.Proofs.YtlchlklbjocliaaDoor
