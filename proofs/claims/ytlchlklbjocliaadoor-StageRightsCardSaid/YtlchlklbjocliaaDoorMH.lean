/- Texts of one kind, laid together. -/
import Derived.Test.YtlchlklbjocliaaDoorMG
/- A guest's tables, told by what stands in them: plain facts. -/
namespace Go.Proofs.YtlchlklbjocliaaDoor
open Go Go.RowKit
set_option linter.unusedSimpArgs false
set_option linter.unusedVariables false
set_option maxRecDepth 100000
/-- A page: its frame and its rights. -/
structure Pg where
  fr : Nat
  r : Bool
  w : Bool
  x : Bool
/-- A guest's pages, and the frames of its lower tables. -/
structure GS where
  pg : Nat → Option Pg
  lw : Nat → Option Nat
def pval : Option Pg → Nat
  | some p => packN true p.r p.w p.x true false false p.fr
  | none => 0
def tval : Option Nat → Nat
  | some t => packN true false false false false false false t
  | none => 0
def GS.set (G : GS) (p : Nat) (v : Option Pg) : GS := ⟨fun i => if i = p then v else G.pg i, G.lw⟩
def GS.setLw (G : GS) (k : Nat) (v : Option Nat) : GS := ⟨G.pg, fun i => if i = k then v else G.lw i⟩
theorem GS.set_same (G : GS) (p : Nat) (v : Option Pg) : (G.set p v).pg p = v := by unfold GS.set; simp
theorem GS.set_ne (G : GS) {p i : Nat} (v : Option Pg) (h : i ≠ p) : (G.set p v).pg i = G.pg i := by unfold GS.set; simp [h]
theorem GS.setLw_same (G : GS) (k : Nat) (v : Option Nat) : (G.setLw k v).lw k = v := by unfold GS.setLw; simp
theorem GS.setLw_ne (G : GS) {k i : Nat} (v : Option Nat) (h : i ≠ k) : (G.setLw k v).lw i = G.lw i := by unfold GS.setLw; simp [h]
theorem GS.setLw_pg (G : GS) (k : Nat) (v : Option Nat) : (G.setLw k v).pg = G.pg := rfl
theorem GS.set_lw (G : GS) (p : Nat) (v : Option Pg) : (G.set p v).lw = G.lw := rfl
/-- How many pages a lower table has. -/
def cntP (G : GS) (k : Nat) : Nat := cn (fun i => (G.pg (32 * k + i)).isSome) 32
/-- How many lower tables there are. -/
def lwN (G : GS) : Nat := cn (fun k => (G.lw k).isSome) 32
theorem cn_zero {p : Nat → Bool} : ∀ {n : Nat}, cn p n = 0 → ∀ i, i < n → p i = false
  | 0, _, i, h => by omega
  | n + 1, h, i, hi => by
    unfold cn at h
    by_cases e : i = n
    · subst e
      cases hp : p i
      · rfl
      · rw [hp] at h; simp at h
    · exact cn_zero (Nat.eq_zero_of_add_eq_zero_right h) i (by omega)
theorem cn_pos {p : Nat → Bool} {i n : Nat} (hi : i < n) (h : p i = true) : 1 ≤ cn p n := by
  rcases Nat.eq_zero_or_pos (cn p n) with h0 | h0
  · have := cn_zero h0 i hi
    rw [h] at this; cases this
  · exact h0
theorem cntP_setLw (G : GS) (k : Nat) (v : Option Nat) : cntP (G.setLw k v) = cntP G := rfl
theorem cntP_add {G : GS} {p : Nat} {g : Pg} (h : G.pg p = none) : cntP (G.set p (some g)) (p / 32) = cntP G (p / 32) + 1 := by
  unfold cntP
  refine cn_add (i := p % 32) (by omega) (fun j hj hn => ?_) ?_ ?_
  · rw [GS.set_ne _ _ (by omega)]
  · rw [show 32 * (p / 32) + p % 32 = p by omega, h]; rfl
  · rw [show 32 * (p / 32) + p % 32 = p by omega, GS.set_same]; rfl
theorem cntP_del {G : GS} {p : Nat} {g : Pg} (h : G.pg p = some g) : cntP G (p / 32) = cntP (G.set p none) (p / 32) + 1 := by
  unfold cntP
  refine cn_add (i := p % 32) (by omega) (fun j hj hn => ?_) ?_ ?_
  · rw [GS.set_ne _ _ (by omega)]
  · rw [show 32 * (p / 32) + p % 32 = p by omega, GS.set_same]; rfl
  · rw [show 32 * (p / 32) + p % 32 = p by omega, h]; rfl
theorem cntP_other {G : GS} {p k : Nat} (v : Option Pg) (h : k ≠ p / 32) : cntP (G.set p v) k = cntP G k := by
  unfold cntP
  refine cn_congr fun i hi => ?_
  rw [GS.set_ne _ _ (by omega)]
theorem cntP_keep {G : GS} {p : Nat} {g g' : Pg} (h : G.pg p = some g) (k : Nat) : cntP (G.set p (some g')) k = cntP G k := by
  unfold cntP
  refine cn_congr fun i hi => ?_
  by_cases e : 32 * k + i = p
  · rw [e, GS.set_same, h]; rfl
  · rw [GS.set_ne _ _ e]
theorem cntP_none {G : GS} {p : Nat} (h : cntP G (p / 32) = 0) : G.pg p = none := by
  have := cn_zero h (p % 32) (by omega)
  rw [show 32 * (p / 32) + p % 32 = p by omega] at this
  cases hp : G.pg p
  · rfl
  · rw [hp] at this; cases this
theorem cntP_le (G : GS) (k : Nat) : cntP G k ≤ 32 := cn_le
theorem lwN_le (G : GS) : lwN G ≤ 32 := cn_le
theorem lwN_add {G : GS} {k t : Nat} (hk : k < 32) (h : G.lw k = none) : lwN (G.setLw k (some t)) = lwN G + 1 := by
  unfold lwN
  refine cn_add hk (fun j hj hn => ?_) ?_ ?_
  · rw [GS.setLw_ne _ _ hn]
  · rw [h]; rfl
  · rw [GS.setLw_same]; rfl
theorem lwN_del {G : GS} {k t : Nat} (hk : k < 32) (h : G.lw k = some t) : lwN G = lwN (G.setLw k none) + 1 := by
  unfold lwN
  refine cn_add hk (fun j hj hn => ?_) ?_ ?_
  · rw [GS.setLw_ne _ _ hn]
  · rw [GS.setLw_same]; rfl
  · rw [h]; rfl
def okPg (g : Pg) : Prop := rightR g.r g.w g.x = true ∧ g.fr < 256
/-- The tables in the memory, the map of the lower tables and the counts are what G says. -/
structure GsAt (N : Nat) (B : Nat → Nat) (rt : Nat) (L : Int → Option Int) (c : Nat → Int) (s : Nat) (G : GS) : Prop where
  low : ∀ k, k < 32 → L ((k : Nat) : Int) = (G.lw k).map (fun t => (t : Int))
  lowN : ∀ x : Int, ¬ (0 ≤ x ∧ x < 32) → L x = none
  pages : ∀ p, p < 1024 → rdP N B L p = pval (G.pg p)
  root : ∀ k, k < 32 → gv N B (rt * 256 + 8 * k) = tval (G.lw k)
  cnt : ∀ k, k < 32 → c k = (cntP G k : Nat)
  som : ∀ k, k < 32 → (G.lw k = none ↔ cntP G k = 0)
  ok : ∀ p g, p < 1024 → G.pg p = some g → okPg g
  tin : ∀ k t, k < 32 → G.lw k = some t → t * 256 + 256 ≤ N ∧ t < 256 ∧ t ≠ rt
  inj : ∀ k k' t, k < 32 → k' < 32 → G.lw k = some t → G.lw k' = some t → k = k'
  rin : rt * 256 + 256 ≤ N
  sz : s = lwN G
theorem GsAt.nonneg {N : Nat} {B : Nat → Nat} {rt : Nat} {L : Int → Option Int} {c : Nat → Int} {s : Nat} {G : GS} (h : GsAt N B rt L c s G) : ∀ k t, L k = some t → 0 ≤ t := by
  intro k t hk
  by_cases h0 : 0 ≤ k ∧ k < 32
  · obtain ⟨k, rfl⟩ := Int.eq_ofNat_of_zero_le h0.1
    have h1 := h.low k (by have := h0.2; omega)
    rw [h1] at hk
    cases hg : G.lw k with
    | none => rw [hg] at hk; cases hk
    | some u => rw [hg] at hk; simp at hk; omega
  · rw [h.lowN k h0] at hk; cases hk
theorem GsAt.L_some {N : Nat} {B : Nat → Nat} {rt : Nat} {L : Int → Option Int} {c : Nat → Int} {s : Nat} {G : GS} (h : GsAt N B rt L c s G) {k t : Nat} (hk : k < 32) (hl : G.lw k = some t) : L ((k : Nat) : Int) = some (t : Int) := by
  rw [h.low k hk, hl]; rfl
theorem GsAt.L_none {N : Nat} {B : Nat → Nat} {rt : Nat} {L : Int → Option Int} {c : Nat → Int} {s : Nat} {G : GS} (h : GsAt N B rt L c s G) {k : Nat} (hk : k < 32) (hl : G.lw k = none) : L ((k : Nat) : Int) = none := by
  rw [h.low k hk, hl]; rfl
theorem GsAt.lw_of {N : Nat} {B : Nat → Nat} {rt : Nat} {L : Int → Option Int} {c : Nat → Int} {s : Nat} {G : GS} (h : GsAt N B rt L c s G) {k t : Nat} (hk : k < 32) (hl : L ((k : Nat) : Int) = some (t : Int)) : G.lw k = some t := by
  rw [h.low k hk] at hl
  cases hg : G.lw k with
  | none => rw [hg] at hl; cases hl
  | some u => rw [hg] at hl; simp at hl; congr 1; omega
theorem pval_lt : ∀ v, pval v < 18446744073709551616
  | some p => packN_lt _ _ _ _ _ _ _ _
  | none => by unfold pval; decide
theorem tval_lt : ∀ v, tval v < 18446744073709551616
  | some p => packN_lt _ _ _ _ _ _ _ _
  | none => by unfold tval; decide
theorem pval_none : packN false false false false false false false 0 = pval none := none_tells.1
theorem tval_none : packN false false false false false false false 0 = tval none := none_tells.1
theorem GsAt.tells_some {N : Nat} {B : Nat → Nat} {rt : Nat} {L : Int → Option Int} {c : Nat → Int} {s : Nat} {G : GS} (h : GsAt N B rt L c s G) {p : Nat} {g : Pg} (hp : p < 1024) (hg : G.pg p = some g) :
    gok (rdP N B L p) = true ∧ ef (rdP N B L p) = g.fr ∧ eb (rdP N B L p) 1 = g.r ∧ eb (rdP N B L p) 2 = g.w ∧ eb (rdP N B L p) 3 = g.x := by
  rw [h.pages p hp, hg]
  obtain ⟨h1, h2⟩ := h.ok p g hp hg
  exact leaf_tells h2 g.r g.w g.x h1
theorem GsAt.tells_none {N : Nat} {B : Nat → Nat} {rt : Nat} {L : Int → Option Int} {c : Nat → Int} {s : Nat} {G : GS} (h : GsAt N B rt L c s G) {p : Nat} (hp : p < 1024) (hg : G.pg p = none) :
    gok (rdP N B L p) = false := by
  rw [h.pages p hp, hg]
  exact gok0
theorem GsAt.lw_some {N : Nat} {B : Nat → Nat} {rt : Nat} {L : Int → Option Int} {c : Nat → Int} {s : Nat} {G : GS} (h : GsAt N B rt L c s G) {p : Nat} {g : Pg} (hp : p < 1024) (hg : G.pg p = some g) : ∃ t, G.lw (p / 32) = some t := by
  cases hl : G.lw (p / 32) with
  | some t => exact ⟨t, rfl⟩
  | none =>
    have h0 := (h.som (p / 32) (by omega)).mp hl
    have := cntP_none h0
    rw [hg] at this; cases this
/-- Bytes of no table of its own were written. -/
theorem GsAt.foreign {N : Nat} {B C : Nat → Nat} {rt : Nat} {L : Int → Option Int} {c : Nat → Int} {s : Nat} {G : GS} (h : GsAt N B rt L c s G) (hC : ∀ i, (i / 256 = rt ∨ ∃ k, k < 32 ∧ G.lw k = some (i / 256)) → C i = B i) : GsAt N C rt L c s G := by
  have hgv : ∀ f a, (f = rt ∨ ∃ k, k < 32 ∧ G.lw k = some f) → a + 8 ≤ 256 → gv N C (f * 256 + a) = gv N B (f * 256 + a) := fun f a hf ha => by
    unfold gv
    rw [segB_congr (fun i hi => hC _ (by rw [show (f * 256 + a + i) / 256 = f by omega]; exact hf))]
  refine ⟨h.low, h.lowN, fun p hp => ?_, fun k hk => ?_, h.cnt, h.som, h.ok, h.tin, h.inj, h.rin, h.sz⟩
  · rw [← h.pages p hp]
    unfold rdP
    cases hl : G.lw (p / 32) with
    | none => rw [h.L_none (by omega) hl]
    | some t =>
      rw [h.L_some (by omega) hl]
      exact hgv t _ (Or.inr ⟨p / 32, by omega, hl⟩) (by omega)
  · rw [← h.root k hk]
    exact hgv rt _ (Or.inl rfl) (by omega)
theorem upC_same (c : Nat → Int) (k : Nat) (v : Int) : upC c k v k = v := by unfold upC; rw [if_pos rfl]
theorem upC_ne (c : Nat → Int) {k i : Nat} (v : Int) (h : i ≠ k) : upC c k v i = c i := by unfold upC; rw [if_neg h]
/-- A page's entry is written, its table stays. -/
theorem GsAt.put {N : Nat} {B : Nat → Nat} {rt : Nat} {L : Int → Option Int} {c : Nat → Int} {s : Nat} {G : GS} (h : GsAt N B rt L c s G) {p t : Nat} (hp : p < 1024) (hl : G.lw (p / 32) = some t) (v : Option Pg) (hv : ∀ g, v = some g → okPg g) (hc : cntP (G.set p v) (p / 32) ≠ 0) :
    GsAt N (putB B (t * 256 + 8 * (p % 32)) (leB (pval v) 8)) rt L (upC c (p / 32) (cntP (G.set p v) (p / 32) : Nat)) s (G.set p v) := by
  have hk : p / 32 < 32 := by omega
  obtain ⟨t1, t2, t3⟩ := h.tin _ _ hk hl
  refine ⟨h.low, h.lowN, fun p' hp' => ?_, fun k hk' => ?_, fun k hk' => ?_, fun k hk' => ?_, fun p' g hp' hg => ?_, h.tin, h.inj, h.rin, h.sz⟩
  · by_cases e : p' = p
    · subst e
      rw [GS.set_same]
      exact rdP_same (h.L_some hk hl) t1 (pval_lt v)
    · rw [GS.set_ne _ _ e, ← h.pages p' hp']
      refine rdP_apart (fun t' ht' => ?_) h.nonneg
      rw [leB_length]
      have hl' := h.lw_of (by omega) ht'
      by_cases e2 : t' = t
      · subst e2
        exact page_apart (h.inj _ _ _ (by omega) hk hl' hl) e
      · omega
  · rw [GS.set_lw, ← h.root k hk']
    exact gv_other (by rw [leB_length]; omega)
  · by_cases e : k = p / 32
    · subst e; rw [upC_same]
    · rw [upC_ne _ _ e, cntP_other _ e]; exact h.cnt k hk'
  · by_cases e : k = p / 32
    · subst e
      rw [GS.set_lw, hl]
      exact Iff.intro (fun hh => by cases hh) (fun hh => absurd hh hc)
    · rw [cntP_other _ e]; exact h.som k hk'
  · by_cases e : p' = p
    · subst e; rw [GS.set_same] at hg; exact hv g hg
    · rw [GS.set_ne _ _ e] at hg; exact h.ok p' g hp' hg
theorem upC_self {c : Nat → Int} {k : Nat} {v : Int} (h : c k = v) : upC c k v = c := by
  funext i; unfold upC; split
  · rename_i hi; rw [hi, h]
  · rfl
theorem zeros_getD (m i : Nat) : (List.replicate m 0).getD i 0 = 0 := by
  rw [List.getD_eq_getElem?_getD, List.getElem?_replicate]
  split <;> rfl
theorem zero_at (B : Nat → Nat) (f : Nat) {i : Nat} (hi : i < 256) : putB B (f * 256) (List.replicate 256 0) (f * 256 + i) = 0 := by
  rw [putB_in _ _ _ (by rw [List.length_replicate]; exact hi)]
  exact zeros_getD 256 i
theorem gv_zero {N : Nat} {B : Nat → Nat} {f a : Nat} (ha : a + 8 ≤ 256) : gv N (putB B (f * 256) (List.replicate 256 0)) (f * 256 + a) = 0 := by
  unfold gv
  have h1 : segB (putB B (f * 256) (List.replicate 256 0)) (f * 256 + a) 8 = segB (fun _ => 0) 0 8 :=
    List.map_congr_left fun i hi => by
      have hi' : i < 8 := by simpa using hi
      rw [show f * 256 + a + i = f * 256 + (a + i) by omega]
      exact zero_at B f (by omega)
  rw [h1]
  split
  · decide
  · rfl
/-- A page's entry is written into a table that is new. -/
theorem GsAt.putNew {N : Nat} {B : Nat → Nat} {rt : Nat} {L : Int → Option Int} {c : Nat → Int} {s : Nat} {G : GS} (h : GsAt N B rt L c s G) {p t : Nat} (hp : p < 1024) (hl : G.lw (p / 32) = none) {g : Pg} (hv : okPg g) (ht : t * 256 + 256 ≤ N) (ht2 : t < 256) (htr : t ≠ rt) (htn : ∀ k, k < 32 → G.lw k ≠ some t) :
    GsAt N (putB (putB (putB B (t * 256) (List.replicate 256 0)) (rt * 256 + 8 * (p / 32)) (leB (tval (some t)) 8)) (t * 256 + 8 * (p % 32)) (leB (pval (some g)) 8)) rt (imUpd L ((p / 32 : Nat) : Int) t) (upC c (p / 32) (c (p / 32) + 1)) (s + 1) ((G.set p (some g)).setLw (p / 32) (some t)) := by
  have hk : p / 32 < 32 := by omega
  have h0 := (h.som _ hk).mp hl
  have hpn := cntP_none h0
  have hck := h.cnt _ hk
  have hrin := h.rin
  refine ⟨fun k hk' => ?_, fun x hx => ?_, fun p' hp' => ?_, fun k hk' => ?_, fun k hk' => ?_, fun k hk' => ?_, fun p' g' hp' hg => ?_, fun k t' hk' hh => ?_, fun k k' t' hk1 hk2 h1 h2 => ?_, h.rin, ?_⟩
  · unfold imUpd
    by_cases e : k = p / 32
    · subst e; rw [if_pos rfl, GS.setLw_same]; rfl
    · rw [if_neg (by omega), GS.setLw_ne _ _ e]; exact h.low k hk'
  · unfold imUpd
    rw [if_neg (by omega)]; exact h.lowN x hx
  · rw [GS.setLw_pg]
    by_cases e : p' / 32 = p / 32
    · rw [← e, rdP_new]
      by_cases e2 : p' = p
      · subst e2
        rw [GS.set_same]
        exact gv_same (by omega) (by omega) (pval_lt _)
      · rw [GS.set_ne _ _ e2, gv_other (by rw [leB_length]; omega), gv_other (by rw [leB_length]; omega), gv_zero (by omega)]
        rw [cntP_none (G := G) (p := p') (by rw [e]; exact h0)]; rfl
    · rw [GS.set_ne _ _ (fun e2 => e (by rw [e2])), ← h.pages p' hp']
      have hrd : rdP N (putB (putB (putB B (t * 256) (List.replicate 256 0)) (rt * 256 + 8 * (p / 32)) (leB (tval (some t)) 8)) (t * 256 + 8 * (p % 32)) (leB (pval (some g)) 8)) (imUpd L ((p / 32 : Nat) : Int) t) p' = rdP N (putB (putB (putB B (t * 256) (List.replicate 256 0)) (rt * 256 + 8 * (p / 32)) (leB (tval (some t)) 8)) (t * 256 + 8 * (p % 32)) (leB (pval (some g)) 8)) L p' := by
        unfold rdP imUpd
        rw [if_neg (by omega)]
      rw [hrd]
      have hne : ∀ t' : Nat, L ((p' / 32 : Nat) : Int) = some (t' : Int) → t' ≠ t ∧ t' ≠ rt := fun t' ht' => by
        have hl' := h.lw_of (by omega) ht'
        exact ⟨fun e3 => htn (p' / 32) (by omega) (by rw [← e3]; exact hl'), (h.tin _ _ (by omega) hl').2.2⟩
      rw [rdP_apart (fun t' ht' => by rw [leB_length]; have := hne t' ht'; omega) h.nonneg, rdP_apart (fun t' ht' => by rw [leB_length]; have := hne t' ht'; omega) h.nonneg, rdP_apart (fun t' ht' => by rw [List.length_replicate]; have := hne t' ht'; omega) h.nonneg]
  · by_cases e : k = p / 32
    · subst e
      rw [GS.setLw_same, gv_other (by rw [leB_length]; omega)]
      exact gv_same (by omega) (by omega) (tval_lt _)
    · rw [GS.setLw_ne _ _ e, GS.set_lw, gv_other (by rw [leB_length]; omega), gv_other (by rw [leB_length]; omega), gv_other (by rw [List.length_replicate]; omega)]
      exact h.root k hk'
  · rw [cntP_setLw]
    by_cases e : k = p / 32
    · subst e; rw [upC_same, cntP_add hpn, hck]; omega
    · rw [upC_ne _ _ e, cntP_other _ e]; exact h.cnt k hk'
  · rw [cntP_setLw]
    by_cases e : k = p / 32
    · subst e
      rw [GS.setLw_same, cntP_add hpn]
      exact Iff.intro (fun hh => by cases hh) (fun hh => by omega)
    · rw [GS.setLw_ne _ _ e, cntP_other _ e]; exact h.som k hk'
  · rw [GS.setLw_pg] at hg
    by_cases e : p' = p
    · subst e; rw [GS.set_same] at hg; injection hg with hg; subst hg; exact hv
    · rw [GS.set_ne _ _ e] at hg; exact h.ok p' g' hp' hg
  · by_cases e : k = p / 32
    · subst e; rw [GS.setLw_same] at hh; injection hh with hh; subst hh; exact ⟨ht, ht2, htr⟩
    · rw [GS.setLw_ne _ _ e] at hh; exact h.tin k t' hk' hh
  · by_cases e1 : k = p / 32
    · by_cases e2 : k' = p / 32
      · omega
      · rw [e1, GS.setLw_same] at h1
        rw [GS.setLw_ne _ _ e2] at h2
        injection h1 with h1
        subst h1
        exact absurd h2 (htn k' hk2)
    · by_cases e2 : k' = p / 32
      · rw [e2, GS.setLw_same] at h2
        rw [GS.setLw_ne _ _ e1] at h1
        injection h2 with h2
        subst h2
        exact absurd h1 (htn k hk1)
      · rw [GS.setLw_ne _ _ e1] at h1
        rw [GS.setLw_ne _ _ e2] at h2
        exact h.inj k k' t' hk1 hk2 h1 h2
  · rw [lwN_add hk (by rw [GS.set_lw]; exact hl), h.sz]; rfl
/-- A table's last page is taken away, and the table with it. -/
theorem GsAt.dropLast {N : Nat} {B : Nat → Nat} {rt : Nat} {L : Int → Option Int} {c : Nat → Int} {s : Nat} {G : GS} (h : GsAt N B rt L c s G) {p t : Nat} (hp : p < 1024) (hl : G.lw (p / 32) = some t) {g : Pg} (hg : G.pg p = some g) (hc : cntP G (p / 32) = 1) :
    GsAt N (putB (putB B (t * 256 + 8 * (p % 32)) (leB (pval none) 8)) (rt * 256 + 8 * (p / 32)) (leB (tval none) 8)) rt (imDel L ((p / 32 : Nat) : Int)) (upC c (p / 32) (c (p / 32) - 1)) (s - 1) ((G.set p none).setLw (p / 32) none) := by
  have hk : p / 32 < 32 := by omega
  obtain ⟨t1, t2, t3⟩ := h.tin _ _ hk hl
  have hck := h.cnt _ hk
  have hrin := h.rin
  have hd := cntP_del hg
  have h0 : cntP (G.set p none) (p / 32) = 0 := by omega
  refine ⟨fun k hk' => ?_, fun x hx => ?_, fun p' hp' => ?_, fun k hk' => ?_, fun k hk' => ?_, fun k hk' => ?_, fun p' g' hp' hg => ?_, fun k t' hk' hh => ?_, fun k k' t' hk1 hk2 h1 h2 => ?_, h.rin, ?_⟩
  · unfold imDel
    by_cases e : k = p / 32
    · subst e; rw [if_pos rfl, GS.setLw_same]; rfl
    · rw [if_neg (by omega), GS.setLw_ne _ _ e]; exact h.low k hk'
  · unfold imDel
    split
    · rfl
    · exact h.lowN x hx
  · rw [GS.setLw_pg]
    by_cases e : p' / 32 = p / 32
    · rw [cntP_none (G := G.set p none) (p := p') (by rw [e]; exact h0)]
      unfold rdP imDel
      rw [← e, if_pos rfl]; rfl
    · rw [GS.set_ne _ _ (fun e2 => e (by rw [e2])), ← h.pages p' hp']
      have hrd : rdP N (putB (putB B (t * 256 + 8 * (p % 32)) (leB (pval none) 8)) (rt * 256 + 8 * (p / 32)) (leB (tval none) 8)) (imDel L ((p / 32 : Nat) : Int)) p' = rdP N (putB (putB B (t * 256 + 8 * (p % 32)) (leB (pval none) 8)) (rt * 256 + 8 * (p / 32)) (leB (tval none) 8)) L p' := by
        unfold rdP imDel
        rw [if_neg (by omega)]
      rw [hrd]
      have hne : ∀ t' : Nat, L ((p' / 32 : Nat) : Int) = some (t' : Int) → t' ≠ t ∧ t' ≠ rt := fun t' ht' => by
        have hl' := h.lw_of (by omega) ht'
        exact ⟨fun e3 => e (h.inj _ _ _ (by omega) hk (by rw [← e3]; exact hl') hl), (h.tin _ _ (by omega) hl').2.2⟩
      rw [rdP_apart (fun t' ht' => by rw [leB_length]; have := hne t' ht'; omega) h.nonneg, rdP_apart (fun t' ht' => by rw [leB_length]; have := hne t' ht'; omega) h.nonneg]
  · by_cases e : k = p / 32
    · subst e
      rw [GS.setLw_same]
      exact gv_same (by omega) (by omega) (tval_lt _)
    · rw [GS.setLw_ne _ _ e, GS.set_lw, gv_other (by rw [leB_length]; omega), gv_other (by rw [leB_length]; omega)]
      exact h.root k hk'
  · rw [cntP_setLw]
    by_cases e : k = p / 32
    · subst e; rw [upC_same, h0, hck, hc]; rfl
    · rw [upC_ne _ _ e, cntP_other _ e]; exact h.cnt k hk'
  · rw [cntP_setLw]
    by_cases e : k = p / 32
    · subst e
      rw [GS.setLw_same, h0]
      exact ⟨fun _ => rfl, fun _ => rfl⟩
    · rw [GS.setLw_ne _ _ e, cntP_other _ e]; exact h.som k hk'
  · rw [GS.setLw_pg] at hg
    by_cases e : p' = p
    · subst e; rw [GS.set_same] at hg; cases hg
    · rw [GS.set_ne _ _ e] at hg; exact h.ok p' g' hp' hg
  · by_cases e : k = p / 32
    · subst e; rw [GS.setLw_same] at hh; cases hh
    · rw [GS.setLw_ne _ _ e] at hh; exact h.tin k t' hk' hh
  · by_cases e1 : k = p / 32
    · rw [e1, GS.setLw_same] at h1; cases h1
    · by_cases e2 : k' = p / 32
      · rw [e2, GS.setLw_same] at h2; cases h2
      · rw [GS.setLw_ne _ _ e1] at h1
        rw [GS.setLw_ne _ _ e2] at h2
        exact h.inj k k' t' hk1 hk2 h1 h2
  · have := lwN_del (G := G.set p none) hk (by rw [GS.set_lw]; exact hl)
    have e : lwN (G.set p none) = lwN G := rfl
    rw [h.sz]; omega
/-- No page, no table. -/
def GS.empty : GS := ⟨fun _ => none, fun _ => none⟩
theorem GsAt.empty {N rt : Nat} {B : Nat → Nat} (hr : rt * 256 + 256 ≤ N) : GsAt N (putB B (rt * 256) (List.replicate 256 0)) rt (fun _ => none) (fun _ => 0) 0 GS.empty := by
  have h0 : ∀ k, cntP GS.empty k = 0 := fun k => cn_none fun i _ => rfl
  exact ⟨fun _ _ => rfl, fun _ _ => rfl, fun _ _ => rfl, fun k hk => gv_zero (by omega), fun k _ => (by rw [h0]; rfl), fun k _ => ⟨fun _ => h0 k, fun _ => rfl⟩, fun _ _ _ hh => (by cases hh), fun _ _ _ hh => (by cases hh), fun _ _ _ _ _ hh => (by cases hh), hr, (cn_none fun i _ => rfl).symm⟩
end Go.Proofs.YtlchlklbjocliaaDoor

/- Whose the frames of a guest's tables and pages are: plain facts; the tables, memory and frames together. -/
namespace Go.Proofs.YtlchlklbjocliaaDoor
open Go Go.RowKit
set_option linter.unusedSimpArgs false
set_option linter.unusedVariables false
set_option maxRecDepth 100000
/-- Is a page the frame f? -/
def isFr (f : Nat) : Option Pg → Bool
  | some g => decide (g.fr = f)
  | none => false
theorem isFr_some (f : Nat) (g : Pg) : isFr f (some g) = decide (g.fr = f) := rfl
theorem isFr_none (f : Nat) : isFr f none = false := rfl
/-- How many pages below m are the frame f. -/
def mapsN (m : Nat) (G : GS) (f : Nat) : Nat := cn (fun p => isFr f (G.pg p)) m
theorem mapsN_add {m : Nat} {G : GS} {p : Nat} {g : Pg} (hp : p < m) (h : G.pg p = none) (f : Nat) : mapsN m (G.set p (some g)) f = mapsN m G f + if f = g.fr then 1 else 0 := by
  unfold mapsN
  by_cases e : f = g.fr
  · rw [if_pos e]
    refine cn_add (i := p) hp (fun j hj hn => ?_) ?_ ?_
    · rw [GS.set_ne _ _ hn]
    · rw [h]; rfl
    · rw [GS.set_same, isFr_some]; simp [e]
  · rw [if_neg e]
    refine cn_congr fun i hi => ?_
    by_cases e2 : i = p
    · subst e2; rw [GS.set_same, h, isFr_some, isFr_none]; simp; exact fun hh => e hh.symm
    · rw [GS.set_ne _ _ e2]
theorem mapsN_del {m : Nat} {G : GS} {p : Nat} {g : Pg} (hp : p < m) (h : G.pg p = some g) (f : Nat) : mapsN m G f = mapsN m (G.set p none) f + if f = g.fr then 1 else 0 := by
  unfold mapsN
  by_cases e : f = g.fr
  · rw [if_pos e]
    refine cn_add (i := p) hp (fun j hj hn => ?_) ?_ ?_
    · rw [GS.set_ne _ _ hn]
    · rw [GS.set_same]; rfl
    · rw [h, isFr_some]; simp [e]
  · rw [if_neg e]
    refine cn_congr fun i hi => ?_
    by_cases e2 : i = p
    · subst e2; rw [GS.set_same, h, isFr_some, isFr_none]; simp; exact fun hh => e hh.symm
    · rw [GS.set_ne _ _ e2]
theorem mapsN_keep {m : Nat} {G : GS} {p : Nat} {g g' : Pg} (h : G.pg p = some g) (hf : g'.fr = g.fr) (f : Nat) : mapsN m (G.set p (some g')) f = mapsN m G f := by
  unfold mapsN
  refine cn_congr fun i hi => ?_
  by_cases e2 : i = p
  · subst e2; rw [GS.set_same, h, isFr_some, isFr_some, hf]
  · rw [GS.set_ne _ _ e2]
theorem mapsN_pos {m : Nat} {G : GS} {p : Nat} {g : Pg} (hp : p < m) (h : G.pg p = some g) : 1 ≤ mapsN m G g.fr :=
  cn_pos (i := p) hp (by rw [h, isFr_some]; simp)
theorem mapsN_none {m : Nat} {G : GS} {f : Nat} (h : ∀ p, p < m → isFr f (G.pg p) = false) : mapsN m G f = 0 := cn_none h
theorem mapsN_le (m : Nat) (G : GS) (f : Nat) : mapsN m G f ≤ m := cn_le
/-- How many pages are the frame f. -/
def mapsOf (G : GS) (f : Nat) : Nat := mapsN 1024 G f
theorem mapsOf_setLw (G : GS) (k : Nat) (v : Option Nat) : mapsOf (G.setLw k v) = mapsOf G := rfl
theorem mapsOf_add {G : GS} {p : Nat} {g : Pg} (hp : p < 1024) (h : G.pg p = none) (f : Nat) : mapsOf (G.set p (some g)) f = mapsOf G f + if f = g.fr then 1 else 0 := mapsN_add hp h f
theorem mapsOf_del {G : GS} {p : Nat} {g : Pg} (hp : p < 1024) (h : G.pg p = some g) (f : Nat) : mapsOf G f = mapsOf (G.set p none) f + if f = g.fr then 1 else 0 := mapsN_del hp h f
theorem mapsOf_keep {G : GS} {p : Nat} {g g' : Pg} (h : G.pg p = some g) (hf : g'.fr = g.fr) (f : Nat) : mapsOf (G.set p (some g')) f = mapsOf G f := mapsN_keep h hf f
theorem mapsOf_pos {G : GS} {p : Nat} {g : Pg} (hp : p < 1024) (h : G.pg p = some g) : 1 ≤ mapsOf G g.fr := mapsN_pos hp h
theorem mapsOf_none {G : GS} {f : Nat} (h : ∀ p, p < 1024 → isFr f (G.pg p) = false) : mapsOf G f = 0 := mapsN_none h
theorem mapsOf_le (G : GS) (f : Nat) : mapsOf G f ≤ 1024 := mapsN_le 1024 G f
theorem mapsOf_zero {G : GS} {f : Nat} (h : mapsOf G f = 0) {p : Nat} {g : Pg} (hp : p < 1024) (hg : G.pg p = some g) : g.fr ≠ f := by
  intro e
  have := mapsOf_pos hp hg
  rw [e] at this; omega
/-- Times and owners of the frames of one guest's root, lower tables and pages; E: how often a frame is had besides its pages. -/
structure FsAt (n first o rt : Nat) (T O E : Nat → Nat) (G : GS) : Prop where
  og : 1 ≤ o ∧ o ≤ 16
  root : rt < n ∧ first ≤ rt ∧ T rt = 1 ∧ O rt = 0
  tab : ∀ k t, k < 32 → G.lw k = some t → t < n ∧ first ≤ t ∧ T t = 1 ∧ O t = 0
  pgs : ∀ p g, p < 1024 → G.pg p = some g → g.fr < n ∧ 0 < T g.fr ∧ O g.fr = o
  own : ∀ f, f < n → 0 < T f → O f = o → first ≤ f ∧ T f = E f + mapsOf G f ∧ 1 ≤ E f
/-- A guest's frames stay as they are where only others' turn. -/
theorem FsAt.foreign {n first o rt : Nat} {T O E T' O' : Nat → Nat} {G : GS} (h : FsAt n first o rt T O E G) (h1 : ∀ f, f < n → (0 < T f ∧ O f = o ∨ f = rt ∨ ∃ k, k < 32 ∧ G.lw k = some f) → T' f = T f ∧ O' f = O f) (h2 : ∀ f, f < n → 0 < T' f → O' f = o → 0 < T f ∧ O f = o) : FsAt n first o rt T' O' E G := by
  refine ⟨h.og, ?_, fun k t hk hl => ?_, fun p g hp hg => ?_, fun f hf hT hO => ?_⟩
  · obtain ⟨r1, r2, r3, r4⟩ := h.root
    obtain ⟨e1, e2⟩ := h1 rt r1 (Or.inr (Or.inl rfl))
    exact ⟨r1, r2, by rw [e1]; exact r3, by rw [e2]; exact r4⟩
  · obtain ⟨r1, r2, r3, r4⟩ := h.tab k t hk hl
    obtain ⟨e1, e2⟩ := h1 t r1 (Or.inr (Or.inr ⟨k, hk, hl⟩))
    exact ⟨r1, r2, by rw [e1]; exact r3, by rw [e2]; exact r4⟩
  · obtain ⟨r1, r2, r3⟩ := h.pgs p g hp hg
    obtain ⟨e1, e2⟩ := h1 g.fr r1 (Or.inl ⟨r2, r3⟩)
    exact ⟨r1, by rw [e1]; exact r2, by rw [e2]; exact r3⟩
  · obtain ⟨g1, g2⟩ := h2 f hf hT hO
    obtain ⟨e1, e2⟩ := h1 f hf (Or.inl ⟨g1, g2⟩)
    obtain ⟨r1, r2, r3⟩ := h.own f hf g1 g2
    exact ⟨r1, by rw [e1]; exact r2, r3⟩
/-- The guest's frame j is mapped at a page more. -/
theorem FsAt.mapped {n first o rt : Nat} {T O E : Nat → Nat} {G : GS} (h : FsAt n first o rt T O E G) {p j : Nat} {g : Pg} (hp : p < 1024) (hn : G.pg p = none) (hj : j < n) (hT : 0 < T j) (hO : O j = o) (hg : g.fr = j) : FsAt n first o rt (upF T j (T j + 1)) O E (G.set p (some g)) := by
  have hne : ∀ f, O f = 0 → f ≠ j := fun f hf e => by rw [e, hO] at hf; have := h.og; omega
  refine ⟨h.og, ?_, fun k t hk hl => ?_, fun p' g' hp' hg' => ?_, fun f hf hT' hO' => ?_⟩
  · obtain ⟨r1, r2, r3, r4⟩ := h.root
    exact ⟨r1, r2, by rw [upF_ne _ _ (hne _ r4)]; exact r3, r4⟩
  · obtain ⟨r1, r2, r3, r4⟩ := h.tab k t hk hl
    exact ⟨r1, r2, by rw [upF_ne _ _ (hne _ r4)]; exact r3, r4⟩
  · by_cases e : p' = p
    · subst e
      rw [GS.set_same] at hg'
      injection hg' with hg'
      subst hg'
      rw [hg, upF_same]
      exact ⟨hj, by omega, hO⟩
    · rw [GS.set_ne _ _ e] at hg'
      obtain ⟨r1, r2, r3⟩ := h.pgs p' g' hp' hg'
      refine ⟨r1, ?_, r3⟩
      unfold upF; split <;> omega
  · have hTf : 0 < T f := by
      by_cases e : f = j
      · rw [e]; exact hT
      · rw [upF_ne _ _ e] at hT'; exact hT'
    obtain ⟨r1, r2, r3⟩ := h.own f hf hTf hO'
    refine ⟨r1, ?_, r3⟩
    rw [mapsOf_add hp hn, hg]
    by_cases e : f = j
    · rw [if_pos e]; subst e; rw [upF_same]; omega
    · rw [if_neg e, upF_ne _ _ e]; omega
/-- A page is taken away. -/
theorem FsAt.unmapped {n first o rt : Nat} {T O E : Nat → Nat} {G : GS} (h : FsAt n first o rt T O E G) {p : Nat} {g : Pg} (hp : p < 1024) (hg : G.pg p = some g) : FsAt n first o rt (upF T g.fr (T g.fr - 1)) O E (G.set p none) ∧ 2 ≤ T g.fr := by
  obtain ⟨j1, j2, j3⟩ := h.pgs p g hp hg
  have hne : ∀ f, O f = 0 → f ≠ g.fr := fun f hf e => by rw [e, j3] at hf; have := h.og; omega
  obtain ⟨m1, m2, m3⟩ := h.own g.fr j1 j2 j3
  have mp := mapsOf_pos hp hg
  refine ⟨⟨h.og, ?_, fun k t hk hl => ?_, fun p' g' hp' hg' => ?_, fun f hf hT' hO' => ?_⟩, by omega⟩
  · obtain ⟨r1, r2, r3, r4⟩ := h.root
    exact ⟨r1, r2, by rw [upF_ne _ _ (hne _ r4)]; exact r3, r4⟩
  · obtain ⟨r1, r2, r3, r4⟩ := h.tab k t hk hl
    exact ⟨r1, r2, by rw [upF_ne _ _ (hne _ r4)]; exact r3, r4⟩
  · by_cases e : p' = p
    · subst e
      rw [GS.set_same] at hg'
      cases hg'
    · rw [GS.set_ne _ _ e] at hg'
      obtain ⟨r1, r2, r3⟩ := h.pgs p' g' hp' hg'
      refine ⟨r1, ?_, r3⟩
      unfold upF; split <;> omega
  · have hTf : 0 < T f := by
      by_cases e : f = g.fr
      · rw [e]; exact j2
      · rw [upF_ne _ _ e] at hT'; exact hT'
    obtain ⟨r1, r2, r3⟩ := h.own f hf hTf hO'
    refine ⟨r1, ?_, r3⟩
    rw [mapsOf_del hp hg f] at r2
    by_cases e : f = g.fr
    · rw [if_pos e] at r2; rw [e, upF_same]; rw [e] at r2; omega
    · rw [if_neg e] at r2; rw [upF_ne _ _ e]; omega
/-- A page's rights are others. -/
theorem FsAt.protected {n first o rt : Nat} {T O E : Nat → Nat} {G : GS} (h : FsAt n first o rt T O E G) {p : Nat} {g g' : Pg} (hp : p < 1024) (hg : G.pg p = some g) (hf : g'.fr = g.fr) : FsAt n first o rt T O E (G.set p (some g')) := by
  refine ⟨h.og, h.root, h.tab, fun p' g1 hp' hg' => ?_, fun f hf' hT' hO' => ?_⟩
  · by_cases e : p' = p
    · subst e
      rw [GS.set_same] at hg'
      injection hg' with hg'
      subst hg'
      rw [hf]
      exact h.pgs p' g hp' hg
    · rw [GS.set_ne _ _ e] at hg'
      exact h.pgs p' g1 hp' hg'
  · rw [mapsOf_keep hg hf]
    exact h.own f hf' hT' hO'
/-- A lower table is made of a frame that was nobody's. -/
theorem FsAt.tabled {n first o rt : Nat} {T O E : Nat → Nat} {G : GS} (h : FsAt n first o rt T O E G) {k t : Nat} (ht : t < n) (hT : T t = 0) (hf : first ≤ t) : FsAt n first o rt (upF T t 1) (upF O t 0) E (G.setLw k (some t)) := by
  have hne : ∀ f, 0 < T f → f ≠ t := fun f hf e => by rw [e, hT] at hf; omega
  refine ⟨h.og, ?_, fun k' t' hk hl => ?_, fun p' g' hp' hg' => ?_, fun f hf' hT' hO' => ?_⟩
  · obtain ⟨r1, r2, r3, r4⟩ := h.root
    have := hne rt (by omega)
    exact ⟨r1, r2, by rw [upF_ne _ _ this]; exact r3, by rw [upF_ne _ _ this]; exact r4⟩
  · by_cases e : k' = k
    · subst e
      rw [GS.setLw_same] at hl
      injection hl with hl
      subst hl
      exact ⟨ht, hf, upF_same _ _ _, upF_same _ _ _⟩
    · rw [GS.setLw_ne _ _ e] at hl
      obtain ⟨r1, r2, r3, r4⟩ := h.tab k' t' hk hl
      have := hne t' (by omega)
      exact ⟨r1, r2, by rw [upF_ne _ _ this]; exact r3, by rw [upF_ne _ _ this]; exact r4⟩
  · obtain ⟨r1, r2, r3⟩ := h.pgs p' g' hp' hg'
    have := hne g'.fr r2
    exact ⟨r1, by rw [upF_ne _ _ this]; exact r2, by rw [upF_ne _ _ this]; exact r3⟩
  · by_cases e : f = t
    · rw [e, upF_same] at hO'; have := h.og; omega
    · rw [upF_ne _ _ e] at hT' hO'
      rw [upF_ne _ _ e]
      exact h.own f hf' hT' hO'
/-- A lower table without pages is let go. -/
theorem FsAt.untabled {n first o rt : Nat} {T O E : Nat → Nat} {G : GS} (h : FsAt n first o rt T O E G) {k t : Nat} (hk : k < 32) (hl : G.lw k = some t) (htr : t ≠ rt) (hinj : ∀ k', k' < 32 → G.lw k' = some t → k' = k) : FsAt n first o rt (upF T t 0) O E (G.setLw k none) := by
  obtain ⟨t1, t2, t3, t4⟩ := h.tab k t hk hl
  refine ⟨h.og, ?_, fun k' t' hk' hl' => ?_, fun p' g' hp' hg' => ?_, fun f hf' hT' hO' => ?_⟩
  · obtain ⟨r1, r2, r3, r4⟩ := h.root
    exact ⟨r1, r2, by rw [upF_ne _ _ (fun e => htr e.symm)]; exact r3, r4⟩
  · by_cases e : k' = k
    · subst e; rw [GS.setLw_same] at hl'; cases hl'
    · rw [GS.setLw_ne _ _ e] at hl'
      obtain ⟨r1, r2, r3, r4⟩ := h.tab k' t' hk' hl'
      have : t' ≠ t := fun e2 => e (hinj k' hk' (by rw [← e2]; exact hl'))
      exact ⟨r1, r2, by rw [upF_ne _ _ this]; exact r3, r4⟩
  · obtain ⟨r1, r2, r3⟩ := h.pgs p' g' hp' hg'
    have : g'.fr ≠ t := fun e => by rw [e, t4] at r3; have := h.og; omega
    exact ⟨r1, by rw [upF_ne _ _ this]; exact r2, r3⟩
  · by_cases e : f = t
    · rw [e, t4] at hO'; have := h.og; omega
    · rw [upF_ne _ _ e] at hT'
      rw [upF_ne _ _ e]
      exact h.own f hf' hT' hO'
/-- A frame that was nobody's becomes the guest's. -/
theorem FsAt.given {n first o rt : Nat} {T O E : Nat → Nat} {G : GS} (h : FsAt n first o rt T O E G) {j : Nat} (hj : j < n) (hT : T j = 0) (hf : first ≤ j) (hE : E j = 1) : FsAt n first o rt (upF T j 1) (upF O j o) E G ∧ mapsOf G j = 0 := by
  have hne : ∀ f, 0 < T f → f ≠ j := fun f hf e => by rw [e, hT] at hf; omega
  have hm : mapsOf G j = 0 := mapsOf_none fun p hp => by
    show isFr j (G.pg p) = false
    cases hg : G.pg p with
    | none => rfl
    | some g =>
      obtain ⟨r1, r2, r3⟩ := h.pgs p g hp hg
      have := hne g.fr r2
      unfold isFr; simp [this]
  refine ⟨⟨h.og, ?_, fun k' t' hk hl => ?_, fun p' g' hp' hg' => ?_, fun f hf' hT' hO' => ?_⟩, hm⟩
  · obtain ⟨r1, r2, r3, r4⟩ := h.root
    have := hne rt (by omega)
    exact ⟨r1, r2, by rw [upF_ne _ _ this]; exact r3, by rw [upF_ne _ _ this]; exact r4⟩
  · obtain ⟨r1, r2, r3, r4⟩ := h.tab k' t' hk hl
    have := hne t' (by omega)
    exact ⟨r1, r2, by rw [upF_ne _ _ this]; exact r3, by rw [upF_ne _ _ this]; exact r4⟩
  · obtain ⟨r1, r2, r3⟩ := h.pgs p' g' hp' hg'
    have := hne g'.fr r2
    exact ⟨r1, by rw [upF_ne _ _ this]; exact r2, by rw [upF_ne _ _ this]; exact r3⟩
  · by_cases e : f = j
    · subst e; rw [upF_same]; exact ⟨hf, by rw [hE, hm], by omega⟩
    · rw [upF_ne _ _ e] at hT' hO'
      rw [upF_ne _ _ e]
      exact h.own f hf' hT' hO'
/-- A frame of the guest's that is no page is let go. -/
theorem FsAt.freed {n first o rt : Nat} {T O E : Nat → Nat} {G : GS} (h : FsAt n first o rt T O E G) {j : Nat} (hj : j < n) (hT : T j = 1) (hO : O j = o) : FsAt n first o rt (upF T j 0) O E G := by
  obtain ⟨m1, m2, m3⟩ := h.own j hj (by omega) hO
  have hne : ∀ f, O f = 0 → f ≠ j := fun f hf e => by rw [e, hO] at hf; have := h.og; omega
  refine ⟨h.og, ?_, fun k' t' hk hl => ?_, fun p' g' hp' hg' => ?_, fun f hf' hT' hO' => ?_⟩
  · obtain ⟨r1, r2, r3, r4⟩ := h.root
    exact ⟨r1, r2, by rw [upF_ne _ _ (hne _ r4)]; exact r3, r4⟩
  · obtain ⟨r1, r2, r3, r4⟩ := h.tab k' t' hk hl
    exact ⟨r1, r2, by rw [upF_ne _ _ (hne _ r4)]; exact r3, r4⟩
  · obtain ⟨r1, r2, r3⟩ := h.pgs p' g' hp' hg'
    have : g'.fr ≠ j := mapsOf_zero (f := j) (by omega) hp' hg'
    exact ⟨r1, by rw [upF_ne _ _ this]; exact r2, r3⟩
  · by_cases e : f = j
    · rw [e, upF_same] at hT'; omega
    · rw [upF_ne _ _ e] at hT'
      rw [upF_ne _ _ e]
      exact h.own f hf' hT' hO'
/-- Owners of frames that are nobody's do not count. -/
theorem FsAt.owners {n first o rt : Nat} {T O O' E : Nat → Nat} {G : GS} (h : FsAt n first o rt T O E G) (hO : ∀ f, 0 < T f → O' f = O f) : FsAt n first o rt T O' E G :=
  h.foreign (fun f hf hh => ⟨rfl, hO f (by
    rcases hh with hh | hh | ⟨k, hk, hh⟩
    · exact hh.1
    · rw [hh, h.root.2.2.1]; omega
    · rw [(h.tab k f hk hh).2.2.1]; omega)⟩) (fun f hf hT hO' => ⟨hT, by rw [← hO f hT]; exact hO'⟩)
/-- A fresh guest. -/
theorem FsAt.empty {n first o rt : Nat} {T O E : Nat → Nat} (ho : 1 ≤ o ∧ o ≤ 16) (hr : rt < n ∧ first ≤ rt ∧ T rt = 1 ∧ O rt = 0) (hn : ∀ f, f < n → 0 < T f → O f ≠ o) : FsAt n first o rt T O E GS.empty :=
  ⟨ho, hr, fun _ _ _ h => (by cases h), fun _ _ _ h => (by cases h), fun f hf hT hO => absurd hO (hn f hf hT)⟩
theorem ownC_zero_lt {n j : Nat} {T O : Nat → Nat} (hj : j < n) (h : T j = 0 ∨ O j ≠ 0) : ownC n T O 0 < n := by
  unfold ownC
  have h1 := cn_add (p := fun i => decide (0 < T i ∧ O i = 0)) (q := fun i => if i = j then true else decide (0 < T i ∧ O i = 0)) hj (fun i _ hi => by rw [if_neg hi]) (by simp; omega) (by simp)
  have h2 := cn_le (p := fun i => if i = j then true else decide (0 < T i ∧ O i = 0)) (n := n)
  omega
end Go.Proofs.YtlchlklbjocliaaDoor

/- One guest's tables with all that stands: Unmap, Map, Look, Protect told by pages. -/
namespace Go.Proofs.YtlchlklbjocliaaDoor
open Go Go.RowKit
set_option linter.unusedSimpArgs false
set_option linter.unusedVariables false
set_option maxRecDepth 100000
structure Ids where
  tb : Nat
  pm : Nat
  fp : Nat
  bl : Nat
  q : Nat
  N : Nat
  o : Nat
  rt : Nat
  bt : Nat
  bw : Nat
  n : Nat
  first : Nat
structure One (w : World) (I : Ids) (B T O E : Nat → Nat) (quo : Nat → Int) (G : GS) : Prop where
  ex : ∃ s c L low, GuAt w I.tb I.pm I.fp I.bl s I.q I.N I.o (I.rt : Int) c L B I.bt I.bw I.n I.first T O quo low ∧ GsAt I.N B I.rt L c s G
  fs : FsAt I.n I.first I.o I.rt T O E G
  nb : I.n ≤ 256
  eb : ∀ f, E f ≤ 60000
theorem One.grows {w w' : World} {I : Ids} {B T O E : Nat → Nat} {quo : Nat → Int} {G : GS} (h : One w I B T O E quo G) (hg : Grows w w') : One w' I B T O E quo G := by
  obtain ⟨s, c, L, low, h1, h2⟩ := h.ex
  exact ⟨⟨s, c, L, low, h1.grows hg, h2⟩, h.fs, h.nb, h.eb⟩
theorem One.fr {w : World} {I : Ids} {B T O E : Nat → Nat} {quo : Nat → Int} {G : GS} (h : One w I B T O E quo G) : ∃ low, FrAt w I.fp I.bt I.bw I.n I.first T O quo low := by
  obtain ⟨s, c, L, low, h1, h2⟩ := h.ex
  exact ⟨low, h1.fr⟩
theorem One.mem {w : World} {I : Ids} {B T O E : Nat → Nat} {quo : Nat → Int} {G : GS} (h : One w I B T O E quo G) : Mem w I.pm I.q I.N B := by
  obtain ⟨s, c, L, low, h1, h2⟩ := h.ex
  exact h1.st.mem
theorem One.nN {w : World} {I : Ids} {B T O E : Nat → Nat} {quo : Nat → Int} {G : GS} (h : One w I B T O E quo G) : I.n * 256 ≤ I.N := by
  obtain ⟨s, c, L, low, h1, h2⟩ := h.ex
  have := h1.hnN
  omega
/-- What is no table of the guest's, and was somebody's, keeps its bytes. -/
def Kept (T : Nat → Nat) (rt : Nat) (G : GS) (B B' : Nat → Nat) : Prop := ∀ i, 0 < T (i / 256) → i / 256 ≠ rt → (∀ k, k < 32 → G.lw k ≠ some (i / 256)) → B' i = B i
theorem Kept.refl (T : Nat → Nat) (rt : Nat) (G : GS) (B : Nat → Nat) : Kept T rt G B B := fun _ _ _ _ => rfl
/-- Others' frames and bytes were changed. -/
theorem One.foreign {w w' : World} {I : Ids} {B C T O T' O' E E' : Nat → Nat} {quo quo' : Nat → Int} {G : GS} {S : List Nat} {low' : Nat} (h : One w I B T O E quo G) (hF : FrAt w' I.fp I.bt I.bw I.n I.first T' O' quo' low') (hM : Mem w' I.pm I.q I.N C) (hc : Chg S w w') (h1 : I.tb ∉ S) (h2 : I.bl ∉ S) (h3 : 1 ∉ S) (h4 : 0 ∉ S)
    (hC : ∀ i, (i / 256 = I.rt ∨ ∃ k, k < 32 ∧ G.lw k = some (i / 256)) → C i = B i) (hfs : FsAt I.n I.first I.o I.rt T' O' E' G) (heb : ∀ f, E' f ≤ 60000) : One w' I C T' O' E' quo' G := by
  obtain ⟨s, c, L, low, g1, g2⟩ := h.ex
  exact ⟨⟨s, c, L, low', ⟨⟨g1.st.tab.chg hc h1, g1.st.map.of_block (hc.get g1.st.map.lt h2), hM, g1.st.wid.chgS hc h3, g1.st.pla.chgS hc h4, g1.st.low, g1.st.sep⟩, hF, g1.hnN, g1.apq, g1.apt, g1.apl, g1.apg⟩, g2.foreign hC⟩, hfs, h.nb, heb⟩
/-- What becomes of a page that is taken away. -/
def UnR (G : GS) (page : Nat) (g : Pg) (T T' : Nat → Nat) (G' : GS) : Prop :=
  ∃ t, G.lw (page / 32) = some t ∧ T t = 1 ∧ g.fr ≠ t ∧ ((2 ≤ cntP G (page / 32) ∧ T' = upF T g.fr (T g.fr - 1) ∧ G' = G.set page none) ∨
  (cntP G (page / 32) = 1 ∧ T' = upF (upF T g.fr (T g.fr - 1)) t 0 ∧ G' = (G.set page none).setLw (page / 32) none))
theorem unmap_no {w : World} {I : Ids} {B T O E : Nat → Nat} {quo : Nat → Int} {G : GS} (h : One w I B T O E quo G) {page : Nat} (hp : page < 1024) (hg : G.pg page = none) :
    Calls Tryd.prog 12 #[.pointer (some ⟨I.tb, 0, none⟩), .int .i64 page] w fun e w' => e = .returned (.tuple #[.int .i64 0, .int .i64 14]) ∧ Grows w w' := by
  obtain ⟨s, c, L, low, g1, g2⟩ := h.ex
  exact Unmap_none g1 hp (g2.tells_none hp hg)
theorem unmap_one {w : World} {I : Ids} {B T O E : Nat → Nat} {quo : Nat → Int} {G : GS} (h : One w I B T O E quo G) {page : Nat} (hp : page < 1024) {g : Pg} (hg : G.pg page = some g) :
    Calls Tryd.prog 12 #[.pointer (some ⟨I.tb, 0, none⟩), .int .i64 page] w fun e w' => e = .returned (.tuple #[.int .i64 g.fr, .int .i64 0]) ∧ (∃ B' T' G', One w' I B' T' O E quo G' ∧ Kept T I.rt G B B' ∧ UnR G page g T T' G') ∧ Chg [I.fp, I.bt, I.bw, I.q, I.tb, I.bl] w w' := by
  obtain ⟨s, c, L, low, g1, g2⟩ := h.ex
  obtain ⟨t, hl⟩ := g2.lw_some hp hg
  have hk : page / 32 < 32 := by omega
  obtain ⟨e1, e2, e3, e4, e5⟩ := g2.tells_some hp hg
  obtain ⟨t1, t2, t3⟩ := g2.tin _ _ hk hl
  obtain ⟨j1, j2, j3⟩ := h.fs.pgs page g hp hg
  obtain ⟨m1, m2, m3⟩ := h.fs.own g.fr j1 j2 j3
  obtain ⟨b1, b2, b3, b4⟩ := h.fs.tab _ _ hk hl
  obtain ⟨r1, r2, r3, r4⟩ := h.fs.root
  have hL := g2.L_some hk hl
  have hck := g2.cnt _ hk
  have hcl := cntP_le G (page / 32)
  have hcd := cntP_del hg
  have hdel := h.fs.unmapped hp hg
  have hne : g.fr ≠ t := fun e => by rw [e, b4] at j3; have := h.fs.og; omega
  by_cases hc2 : 2 ≤ cntP G (page / 32)
  · have hU := Unmap_more g1 hp e1 hL t1 (by rw [e2]; exact j1) (by rw [e2]; omega) (by rw [e2]; exact j3) (by rw [e2]; exact m1) (by rw [hck]; omega)
    rw [e2] at hU
    refine hU.mono ?_
    rintro _ w' ⟨rfl, hG, hC⟩
    have hput := g2.put hp hl none (fun _ hh => by cases hh) (by omega)
    rw [show ((cntP (G.set page none) (page / 32) : Nat) : Int) = c (page / 32) - 1 by rw [hck]; omega] at hput
    refine ⟨rfl, ⟨_, _, _, ⟨⟨s, _, L, _, hG, by rw [pval_none]; exact hput⟩, hdel.1, h.nb, h.eb⟩, ?_, t, hl, b3, hne, Or.inl ⟨hc2, rfl, rfl⟩⟩, hC⟩
    intro i hT hr hk'
    have : i / 256 ≠ t := fun e => hk' _ hk (by rw [e]; exact hl)
    exact putB_out _ _ _ (by rw [leB_length]; omega)
  · have hc1 : cntP G (page / 32) = 1 := by omega
    have hU := Unmap_last g1 hp e1 hL t1 (by rw [e2]; exact j1) (by rw [e2]; omega) (by rw [e2]; exact j3) (by rw [e2]; exact m1) (by rw [hck, hc1]; rfl) g2.rin b1 b3 b4 b2
    rw [e2] at hU
    refine hU.mono ?_
    rintro _ w' ⟨rfl, hG, hC⟩
    have hput := g2.dropLast hp hl hg hc1
    refine ⟨rfl, ⟨_, _, _, ⟨⟨_, _, _, _, hG, by rw [pval_none]; exact hput⟩, hdel.1.untabled (k := page / 32) (t := t) hk hl t3 (fun k' hk' hh => g2.inj _ _ _ hk' hk hh hl), h.nb, h.eb⟩, ?_, t, hl, b3, hne, Or.inr ⟨hc1, rfl, rfl⟩⟩, hC⟩
    intro i hT hr hk'
    have : i / 256 ≠ t := fun e => hk' _ hk (by rw [e]; exact hl)
    rw [putB_out _ _ _ (by rw [leB_length]; omega)]
    exact putB_out _ _ _ (by rw [leB_length]; omega)
/-- What becomes of a page that is mapped to the guest's frame j. -/
def MapR (n first page j : Nat) (g : Pg) (T O : Nat → Nat) (G : GS) (er : Int) (T' O' : Nat → Nat) (G' : GS) : Prop :=
  (er = 0 ∧ (∃ t, G.lw (page / 32) = some t) ∧ T' = upF T j (T j + 1) ∧ O' = O ∧ G' = G.set page (some g)) ∨
  (er = 0 ∧ G.lw (page / 32) = none ∧ ∃ t, t < n ∧ first ≤ t ∧ T t = 0 ∧ t ≠ j ∧ T' = upF (upF T j (T j + 1)) t 1 ∧ O' = upF O t 0 ∧ G' = (G.set page (some g)).setLw (page / 32) (some t)) ∨
  (er = 20 ∧ G.lw (page / 32) = none ∧ (∀ i, i < n → 0 < T i) ∧ T' = T ∧ O' = O ∧ G' = G)
theorem map_one {w : World} {I : Ids} {B T O E : Nat → Nat} {quo : Nat → Int} {G : GS} (h : One w I B T O E quo G) {page j : Nat} (hp : page < 1024) (r x1 x2 : Bool) (hr : rightR r x1 x2 = true) (hj : j < I.n) (hT0 : 0 < T j) (hO : O j = I.o) (hg : G.pg page = none) (hq0 : (I.n : Int) ≤ quo 0) :
    Calls Tryd.prog 16 #[.pointer (some ⟨I.tb, 0, none⟩), .int .i64 page, .int .i64 j, .agg #[.bool r, .bool x1, .bool x2]] w fun e w' => ∃ (er : Int) (B' T' O' : Nat → Nat) (G' : GS), e = .returned (.int .i64 er) ∧ One w' I B' T' O' E quo G' ∧ Kept T I.rt G B B' ∧ MapR I.n I.first page j ⟨j, r, x1, x2⟩ T O G er T' O' G' ∧ Chg [I.fp, I.bt, I.bw, I.q, I.tb, I.bl] w w' := by
  obtain ⟨s, c, L, low, g1, g2⟩ := h.ex
  have hk : page / 32 < 32 := by omega
  obtain ⟨m1, m2, m3⟩ := h.fs.own j hj hT0 hO
  have hml := mapsOf_le G j
  have heb := h.eb j
  have hno := g2.tells_none hp hg
  have hck := g2.cnt _ hk
  have hcl := cntP_le G (page / 32)
  have hadd := cntP_add (g := ⟨j, r, x1, x2⟩) hg
  have hmap := h.fs.mapped (g := ⟨j, r, x1, x2⟩) hp hg hj hT0 hO rfl
  have hok : okPg ⟨j, r, x1, x2⟩ := ⟨hr, by have := h.nb; show j < 256; omega⟩
  cases hl : G.lw (page / 32) with
  | some t =>
    obtain ⟨t1, t2, t3⟩ := g2.tin _ _ hk hl
    have hL := g2.L_some hk hl
    refine (Map_low g1 hp r x1 x2 hr hj hno hT0 (by omega) hO hL t1 (by rw [hck]; omega)).mono ?_
    rintro _ w' ⟨rfl, hG, hC⟩
    have hput := g2.put hp hl (some ⟨j, r, x1, x2⟩) (fun _ hh => by injection hh with hh; subst hh; exact hok) (by omega)
    rw [hadd, show ((cntP G (page / 32) + 1 : Nat) : Int) = c (page / 32) + 1 by rw [hck]; omega] at hput
    refine ⟨0, _, _, _, _, rfl, ⟨⟨s, _, L, _, hG, hput⟩, hmap, h.nb, h.eb⟩, ?_, Or.inl ⟨rfl, ⟨t, hl⟩, rfl, rfl, rfl⟩, hC.weaken (fun k hk => Or.inl (by simp at hk ⊢; omega))⟩
    intro i hT hr hk'
    have : i / 256 ≠ t := fun e => hk' _ hk (by rw [e]; exact hl)
    exact putB_out _ _ _ (by rw [leB_length]; omega)
  | none =>
    have hL := g2.L_none hk hl
    have hup : ∀ i, i < I.n → (0 < upF T j (T j + 1) i ↔ 0 < T i) := fun i hi => by
      unfold upF; split
      · rename_i e; rw [e]; omega
      · exact Iff.rfl
    have h0 : (ownC I.n (upF T j (T j + 1)) O 0 : Int) < quo 0 := by
      have := ownC_zero_lt (T := upF T j (T j + 1)) (O := O) hj (Or.inr (by rw [hO]; have := h.fs.og; omega))
      omega
    refine (Map_new g1 hp r x1 x2 hr hj hno hT0 (by omega) hO m1 hL g2.rin (by rw [hck]; omega) h0 (by rw [g2.sz]; have := lwN_le G; omega) (by have := h.fs.og; omega)).mono ?_
    rintro _ w' ⟨⟨t, ht, hlow, htT, htf, rfl, hG⟩ | ⟨hall, rfl, hG⟩, hC⟩
    · have htj : t ≠ j := fun e => by rw [e, upF_same] at htT; omega
      have hT0' : T t = 0 := by rw [upF_ne _ _ htj] at htT; exact htT
      have hr3 := h.fs.root
      have htr : t ≠ I.rt := fun e => by rw [e] at hT0'; omega
      have htn : ∀ k, k < 32 → G.lw k ≠ some t := fun k hk' hh => by
        have := (h.fs.tab k t hk' hh).2.2.1
        omega
      have hin : t * 256 + 256 ≤ I.N := by have := h.nN; omega
      have hput := g2.putNew hp hl hok hin (by have := h.nb; omega) htr htn
      refine ⟨0, _, _, _, _, rfl, ⟨⟨_, _, _, _, hG, hput⟩, hmap.tabled ht htT htf, h.nb, h.eb⟩, ?_, Or.inr (Or.inl ⟨rfl, hl, t, ht, htf, hT0', htj, rfl, rfl, rfl⟩), hC⟩
      intro i hT hr hk'
      have : i / 256 ≠ t := fun e => by rw [e] at hT; omega
      rw [putB_out _ _ _ (by rw [leB_length]; omega), putB_out _ _ _ (by rw [leB_length]; omega)]
      exact putB_out _ _ _ (by rw [List.length_replicate]; omega)
    · exact ⟨20, _, _, _, _, rfl, ⟨⟨_, _, _, _, hG, g2⟩, h.fs, h.nb, h.eb⟩, Kept.refl _ _ _ _, Or.inr (Or.inr ⟨rfl, hl, fun i hi => (hup i hi).mp (hall i hi), rfl, rfl, rfl⟩), hC⟩
theorem look_one {w : World} {I : Ids} {B T O E : Nat → Nat} {quo : Nat → Int} {G : GS} (h : One w I B T O E quo G) {page : Nat} (hp : page < 1024) :
    Calls Tryd.prog 13 #[.pointer (some ⟨I.tb, 0, none⟩), .int .i64 page] w fun e w' => e = .returned (match G.pg page with
      | some g => .tuple #[.int .i64 g.fr, .agg #[.bool g.r, .bool g.w, .bool g.x], .bool true]
      | none => .tuple #[.int .i64 0, .agg #[.bool false, .bool false, .bool false], .bool false]) ∧ Grows w w' := by
  obtain ⟨s, c, L, low, g1, g2⟩ := h.ex
  have hL := Look_any g1.st hp
  cases hg : G.pg page with
  | some g =>
    obtain ⟨e1, e2, e3, e4, e5⟩ := g2.tells_some hp hg
    rw [e1, e2, e3, e4, e5] at hL
    exact hL
  | none =>
    have e1 := g2.tells_none hp hg
    have e2 : ef (rdP I.N B L page) = 0 := by unfold ef; rw [e1]; rfl
    have e3 : ∀ k, eb (rdP I.N B L page) k = false := fun k => by unfold eb; rw [e1]; rfl
    rw [e1, e2, e3, e3, e3] at hL
    exact hL
theorem protect_no {w : World} {I : Ids} {B T O E : Nat → Nat} {quo : Nat → Int} {G : GS} (h : One w I B T O E quo G) {page : Nat} (hp : page < 1024) (r x1 x2 : Bool) (hr : rightR r x1 x2 = true) (hg : G.pg page = none) :
    Calls Tryd.prog 17 #[.pointer (some ⟨I.tb, 0, none⟩), .int .i64 page, .agg #[.bool r, .bool x1, .bool x2]] w fun e w' => e = .returned (.int .i64 14) ∧ Grows w w' := by
  obtain ⟨s, c, L, low, g1, g2⟩ := h.ex
  exact Protect_none g1.st hp r x1 x2 hr (g2.tells_none hp hg)
theorem protect_one {w : World} {I : Ids} {B T O E : Nat → Nat} {quo : Nat → Int} {G : GS} (h : One w I B T O E quo G) {page : Nat} (hp : page < 1024) (r x1 x2 : Bool) (hr : rightR r x1 x2 = true) {g : Pg} (hg : G.pg page = some g) :
    Calls Tryd.prog 17 #[.pointer (some ⟨I.tb, 0, none⟩), .int .i64 page, .agg #[.bool r, .bool x1, .bool x2]] w fun e w' => e = .returned (.int .i64 0) ∧ (∃ B', One w' I B' T O E quo (G.set page (some ⟨g.fr, r, x1, x2⟩)) ∧ Kept T I.rt G B B') ∧ Chg [I.q] w w' := by
  obtain ⟨s, c, L, low, g1, g2⟩ := h.ex
  obtain ⟨t, hl⟩ := g2.lw_some hp hg
  have hk : page / 32 < 32 := by omega
  obtain ⟨e1, e2, e3, e4, e5⟩ := g2.tells_some hp hg
  obtain ⟨t1, t2, t3⟩ := g2.tin _ _ hk hl
  have hL := g2.L_some hk hl
  have hP := Protect_ok g1.st hp r x1 x2 hr e1 hL t1
  rw [e2] at hP
  refine hP.mono ?_
  rintro _ w' ⟨rfl, hM, hC⟩
  have hkeep := cntP_keep (g' := ⟨g.fr, r, x1, x2⟩) hg
  have hcd := cntP_del hg
  have hput := g2.put hp hl (some ⟨g.fr, r, x1, x2⟩) (fun _ hh => by injection hh with hh; subst hh; exact ⟨hr, (g2.ok page g hp hg).2⟩) (by rw [hkeep]; omega)
  rw [hkeep, upC_self (g2.cnt _ hk)] at hput
  refine ⟨rfl, ⟨_, ⟨⟨s, c, L, low, g1.wrote hM hC, hput⟩, h.fs.protected hp hg rfl, h.nb, h.eb⟩, ?_⟩, hC⟩
  intro i hT hr hk'
  have : i / 256 ≠ t := fun e => hk' _ hk (by rw [e]; exact hl)
  exact putB_out _ _ _ (by rw [leB_length]; omega)
end Go.Proofs.YtlchlklbjocliaaDoor

/- The balloon told by pages: Give, Take, Settle. -/
namespace Go.Proofs.YtlchlklbjocliaaDoor
open Go Go.RowKit
set_option linter.unusedSimpArgs false
set_option linter.unusedVariables false
set_option maxRecDepth 100000
/-- A balloon's own blocks are none of the others'. -/
structure BaSep (ba bv : Nat) (I : Ids) : Prop where
  a : ba ≠ I.fp ∧ ba ≠ I.bt ∧ ba ≠ I.bw ∧ ba ≠ I.q ∧ ba ≠ I.tb ∧ ba ≠ I.pm ∧ ba ≠ I.bl ∧ ba ≠ 1 ∧ ba ≠ 0
  v : bv ≠ I.fp ∧ bv ≠ I.bt ∧ bv ≠ I.bw ∧ bv ≠ I.q ∧ bv ≠ I.tb ∧ bv ≠ I.pm ∧ bv ≠ I.bl ∧ bv ≠ 1 ∧ bv ≠ 0
set_option maxHeartbeats 1000000 in
theorem Give_quota {w : World} {ba tb pm fp bl s q N o : Nat} {root : Int} {c : Nat → Int} {L : Int → Option Int} {B : Nat → Nat} {bt bw n first : Nat} {T O : Nat → Nat} {quo : Nat → Int} {low : Nat} {pages : Int} {bv sv : Nat} {gvn tk : Int} {F : Int → Option Bool} (hba : BaAt w ba pm fp tb (o : Int) pages bv sv gvn tk F) (h : GuAt w tb pm fp bl s q N o root c L B bt bw n first T O quo low) {page : Nat} (hp : page < 1024) (hpp : (page : Int) < pages) (hg : gok (rdP N B L page) = false) (ho17 : o < 17) (hq : quo o ≤ ownC n T O o) :
    Calls Tryd.prog 36 #[.pointer (some ⟨ba, 0, none⟩), .int .i64 page] w fun e w' => e = .returned (.int .i64 19) ∧ Grows w w' := by
  have hwr := bwrong_ok hba (page := page) (by omega) hpp
  have hlo := Look_any h.st hp
  rw [hg] at hlo
  generalize rdP N B L page = v at *
  have lt := hba.row.lt
  have c2 : w.cell? ⟨ba, 2, none⟩ = some (.pointer (some ⟨tb, 0, none⟩)) := hba.row.cell 2
  have HB := Lib.hid hba
  have HAL := Lib.hid (fun W (hF : FrAt W fp bt bw n first T O quo low) => Alloc_quota hF ho17 hq)
  have HF := Lib.hid h.fr
  clear hba h hpp hg hp hq ho17
  go_enter Tryd.func36, Tryd.ntmps36
  go_wp2_with fail
  refine (hwr).mono ?_
  rintro _ _ ⟨rfl, hw⟩
  rw [hw]
  clear hw
  go_wp2_with fail
  refine hlo.mono ?_
  rintro _ w1 ⟨rfl, hg1⟩
  clear hlo hwr c2 lt
  go_upto_region 5 with fail
  obtain ⟨W2, hW2⟩ : ∃ W2, W2 = w1.alloc (Obj.cells #[.bool (eb v 1), .bool (eb v 2), .bool (eb v 3)] 23) := ⟨_, rfl⟩
  rw [← hW2]
  have hg2 : Grows w W2 := by rw [hW2]; exact hg1.alloc _
  have HB2 := Lib.hid (HB.out.chg (Chg.of_grows (S := []) hg2) (by simp) (by simp))
  have HG2 := Lib.hid hg2
  clear hW2 hg1 hg2 HB
  have lt := HB2.out.row.lt
  go_wp2_with fail
  have HSG := Lib.hid (fun (w' : World) (h : Row w' ba (baL pm fp tb (o : Int) pages bv gvn tk) 100) => (⟨h.cell 1, h.cell 3⟩ : w'.cell? ⟨ba, 1, none⟩ = some (.pointer (some ⟨fp, 0, none⟩)) ∧ w'.cell? ⟨ba, 3, none⟩ = some (.int .i64 o)))
  go_region_held3 (fun w' => w'.cell? ⟨ba, 1, none⟩ = some (.pointer (some ⟨fp, 0, none⟩)) ∧ w'.cell? ⟨ba, 3, none⟩ = some (.int .i64 o)) (first
    | with_reducible exact HSG.out _ ((HB2.out.row.grows ((Grows.refl _).drew)).grows HG3.out)
    | with_reducible exact HSG.out _ (HB2.out.row.grows ((Grows.refl _).drew))) (first
    | (go_at_call 29; refine (HAL.out _ (HF.out.grows (HG2.out.trans ((Grows.refl _).drew)))).mono ?_; rintro _ w3 ⟨rfl, hg3⟩
       have HG3 := Lib.hid hg3
       clear hg3))
  all_goals
    have HG4 := Lib.hid ((HG2.out.drew).trans HG3.out)
    clear HB2 HG2 HG3 HSG HAL HF lt
    go_wp2_with fail
    go_ret
    exact ⟨rfl, HG4.out⟩
theorem upF_up (f : Nat → Nat) (i a b : Nat) : upF (upF f i a) i b = upF f i b := by
  funext j; unfold upF; split <;> rfl
/-- What becomes of a page that is given. -/
def GiveR (n first o : Nat) (T O : Nat → Nat) (quo : Nat → Int) (G : GS) (page : Nat) (gvn er gv' : Int) (B' T' O' : Nat → Nat) (G' : GS) : Prop :=
  (G.pg page ≠ none ∧ er = 13 ∧ T' = T ∧ O' = O ∧ G' = G ∧ gv' = gvn) ∨
  (G.pg page = none ∧ quo o ≤ ownC n T O o ∧ er = 19 ∧ T' = T ∧ O' = O ∧ G' = G ∧ gv' = gvn) ∨
  (G.pg page = none ∧ (ownC n T O o : Int) < quo o ∧ er = 20 ∧ T' = T ∧ (∀ f, 0 < T f → O' f = O f) ∧ G' = G ∧ gv' = gvn ∧ ((∀ i, i < n → 0 < T i) ∨ G.lw (page / 32) = none ∧ ∃ k, k < n ∧ T k = 0 ∧ ∀ i, i < n → i ≠ k → 0 < T i)) ∨
  (G.pg page = none ∧ (ownC n T O o : Int) < quo o ∧ er = 0 ∧ gv' = gvn + 1 ∧ ∃ k, k < n ∧ first ≤ k ∧ T k = 0 ∧ (∀ i, i < 256 → B' (k * 256 + i) = 0) ∧
    (((∃ t, G.lw (page / 32) = some t) ∧ T' = upF T k 2 ∧ O' = upF O k o ∧ G' = G.set page (some ⟨k, true, true, true⟩)) ∨
     (G.lw (page / 32) = none ∧ ∃ t, t < n ∧ first ≤ t ∧ t ≠ k ∧ T t = 0 ∧ T' = upF (upF T k 2) t 1 ∧ O' = upF (upF O k o) t 0 ∧ G' = (G.set page (some ⟨k, true, true, true⟩)).setLw (page / 32) (some t))))
theorem give_all {w : World} {ba bv sv : Nat} {I : Ids} {B T O E : Nat → Nat} {quo : Nat → Int} {G : GS} {pages gvn tk : Int} {F : Int → Option Bool} (hba : BaAt w ba I.pm I.fp I.tb (I.o : Int) pages bv sv gvn tk F) (h : One w I B T O E quo G) (hd : BaSep ba bv I) {page : Nat} (hp : page < 1024) (hpp : (page : Int) < pages) (hgv : 0 ≤ gvn ∧ gvn < 1000000) (hE : ∀ f, f < I.n → T f = 0 → E f = 1) (hq0 : (I.n : Int) ≤ quo 0) :
    Calls Tryd.prog 36 #[.pointer (some ⟨ba, 0, none⟩), .int .i64 page] w fun e w' => ∃ (er gv' : Int) (B' T' O' : Nat → Nat) (G' : GS), e = .returned (.int .i64 er) ∧ BaAt w' ba I.pm I.fp I.tb (I.o : Int) pages bv sv gv' tk F ∧ One w' I B' T' O' E quo G' ∧ Chg [I.fp, I.bt, I.bw, I.q, I.tb, ba, I.bl] w w' ∧ Kept T I.rt G B B' ∧ GiveR I.n I.first I.o T O quo G page gvn er gv' B' T' O' G' := by
  obtain ⟨s, c, L, low, g1, g2⟩ := h.ex
  have hk : page / 32 < 32 := by omega
  have ho := h.fs.og
  have hnN := h.nN
  have hnb := h.nb
  obtain ⟨a1, a2, a3, a4, a5, a6, a7, a8, a9⟩ := hd.a
  obtain ⟨v1, v2, v3, v4, v5, v6, v7, v8, v9⟩ := hd.v
  cases hg : G.pg page with
  | some g =>
    refine (Give_there hba g1.st hp hpp (g2.tells_some hp hg).1).mono ?_
    rintro _ w' ⟨rfl, hgr⟩
    exact ⟨13, gvn, B, T, O, G, rfl, hba.chg (Chg.of_grows (S := []) hgr) (by simp) (by simp), h.grows hgr, Chg.of_grows hgr, Kept.refl _ _ _ _, Or.inl ⟨by rw [hg]; simp, rfl, rfl, rfl, rfl, rfl⟩⟩
  | none =>
    have hno := g2.tells_none hp hg
    by_cases hq : (ownC I.n T O I.o : Int) < quo I.o
    · have hck := g2.cnt _ hk
      have hcl := cntP_le G (page / 32)
      have hadd := fun k => cntP_add (g := ⟨k, true, true, true⟩) hg
      have hok : ∀ k, k < I.n → okPg ⟨k, true, true, true⟩ := fun k hk => ⟨rfl, by show k < 256; omega⟩
      have hr3 := h.fs.root
      have hgiv : ∀ k, k < I.n → T k = 0 → I.first ≤ k → FsAt I.n I.first I.o I.rt (upF T k 2) (upF O k I.o) E (G.set page (some ⟨k, true, true, true⟩)) := fun k hkn hTk hfk => by
        obtain ⟨f1, f2⟩ := h.fs.given hkn hTk hfk (hE k hkn hTk)
        have f3 := f1.mapped (g := ⟨k, true, true, true⟩) hp hg hkn (by rw [upF_same]; omega) (upF_same _ _ _) rfl
        rw [upF_up, upF_same] at f3
        exact f3
      have hup : ∀ k, upF (upF T k 1) k (upF T k 1 k + 1) = upF T k 2 := fun k => by rw [upF_up, upF_same]
      cases hl : G.lw (page / 32) with
      | some t =>
        obtain ⟨t1, t2, t3⟩ := g2.tin _ _ hk hl
        obtain ⟨b1, b2, b3, b4⟩ := h.fs.tab _ _ hk hl
        have hL := g2.L_some hk hl
        refine (Give_low hba g1 ⟨a1, a2, a3, a4, a5⟩ ⟨v1, v2, v3, v4, v5⟩ ⟨a6, a7, a8, a9⟩ hp hpp hno (by omega) hq hL t1 (by omega) (by rw [hck]; omega) hgv).mono ?_
        rintro _ w' (⟨k, hkn, hlow, hTk, hfk, rfl, hB', hG', hC⟩ | ⟨hall, rfl, hB', hG', hC⟩)
        · have htk : t ≠ k := fun e => by rw [e] at b3; omega
          have hput := (g2.foreign (C := putB B (k * 256) (List.replicate 256 0)) (fun i hi => putB_out _ _ _ (by
              rw [List.length_replicate]
              have : i / 256 ≠ k := fun e => by
                rcases hi with hi | ⟨k', hk', hi⟩
                · rw [e] at hi; rw [hi] at hTk; omega
                · have := (h.fs.tab k' _ hk' hi).2.2.1; rw [e] at this; omega
              omega))).put hp hl (some ⟨k, true, true, true⟩) (fun _ hh => by injection hh with hh; subst hh; exact hok k hkn) (by rw [hadd]; omega)
          rw [hadd, show ((cntP G (page / 32) + 1 : Nat) : Int) = c (page / 32) + 1 by rw [hck]; omega] at hput
          rw [hup] at hG'
          refine ⟨0, gvn + 1, _, _, _, _, rfl, hB', ⟨⟨s, _, L, _, hG', hput⟩, hgiv k hkn hTk hfk, h.nb, h.eb⟩, hC.weaken (fun k hk => Or.inl (by simp at hk ⊢; omega)), ?_, Or.inr (Or.inr (Or.inr ⟨hg, hq, rfl, rfl, k, hkn, hfk, hTk, fun i hi => ?_, Or.inl ⟨⟨t, hl⟩, rfl, rfl, rfl⟩⟩))⟩
          · intro i hT hr hk'
            have : i / 256 ≠ t := fun e => hk' _ hk (by rw [e]; exact hl)
            have : i / 256 ≠ k := fun e => by rw [e] at hT; omega
            rw [putB_out _ _ _ (by rw [leB_length]; omega)]
            exact putB_out _ _ _ (by rw [List.length_replicate]; omega)
          · rw [putB_out _ _ _ (by rw [leB_length]; omega)]
            exact zero_at B k hi
        · exact ⟨20, gvn, _, _, _, _, rfl, hB', ⟨⟨s, _, L, _, hG', g2⟩, h.fs, h.nb, h.eb⟩, hC.weaken (fun k hk => Or.inl (by simp at hk ⊢; omega)), Kept.refl _ _ _ _, Or.inr (Or.inr (Or.inl ⟨hg, hq, rfl, rfl, fun _ _ => rfl, rfl, rfl, Or.inl hall⟩))⟩
      | none =>
        have hL := g2.L_none hk hl
        have hq0' : ∀ k, k < I.n → T k = 0 → (ownC I.n (upF (upF T k 1) k (upF T k 1 k + 1)) (upF O k I.o) 0 : Int) < quo 0 := fun k hkn hTk => by
          have := ownC_zero_lt (T := upF (upF T k 1) k (upF T k 1 k + 1)) (O := upF O k I.o) hkn (Or.inr (by rw [upF_same]; omega))
          omega
        refine (Give_new hba g1 ⟨a1, a2, a3, a4, a5⟩ ⟨v1, v2, v3, v4, v5, v7⟩ ⟨a6, a7, a8, a9⟩ hp hpp hno (by omega) hq hL g2.rin hq0' (by rw [g2.sz]; have := lwN_le G; omega) (by rw [hck]; omega) hgv).mono ?_
        rintro _ w' (⟨k, t, hkn, hlow, hTk, hfk, ht, htl, htT, htf, rfl, hB', hG', hC⟩ | ⟨k, hkn, hTk, hfk, hall, rfl, hB', hG', hC⟩ | ⟨hall, rfl, hB', hG', hC⟩)
        · rw [hup] at htT hG'
          have htk : t ≠ k := fun e => by rw [e, upF_same] at htT; omega
          have hTt : T t = 0 := by rw [upF_ne _ _ htk] at htT; exact htT
          have htr : t ≠ I.rt := fun e => by rw [e] at hTt; omega
          have hkr : k ≠ I.rt := fun e => by rw [e] at hTk; omega
          have htn : ∀ k', k' < 32 → G.lw k' ≠ some t := fun k' hk' hh => by
            have := (h.fs.tab k' t hk' hh).2.2.1
            omega
          have hin : t * 256 + 256 ≤ I.N := by omega
          have hput := (g2.foreign (C := putB B (k * 256) (List.replicate 256 0)) (fun i hi => putB_out _ _ _ (by
              rw [List.length_replicate]
              have : i / 256 ≠ k := fun e => by
                rcases hi with hi | ⟨k', hk', hi⟩
                · rw [e] at hi; rw [hi] at hTk; omega
                · have := (h.fs.tab k' _ hk' hi).2.2.1; rw [e] at this; omega
              omega))).putNew hp hl (hok k hkn) hin (by omega) htr htn
          refine ⟨0, gvn + 1, _, _, _, _, rfl, hB', ⟨⟨_, _, _, _, hG', hput⟩, (hgiv k hkn hTk hfk).tabled ht htT htf, h.nb, h.eb⟩, hC, ?_, Or.inr (Or.inr (Or.inr ⟨hg, hq, rfl, rfl, k, hkn, hfk, hTk, fun i hi => ?_, Or.inr ⟨hl, t, ht, htf, htk, hTt, rfl, rfl, rfl⟩⟩))⟩
          · intro i hT hr hk'
            have : i / 256 ≠ t := fun e => by rw [e] at hT; omega
            have : i / 256 ≠ k := fun e => by rw [e] at hT; omega
            rw [putB_out _ _ _ (by rw [leB_length]; omega), putB_out _ _ _ (by rw [leB_length]; omega), putB_out _ _ _ (by rw [List.length_replicate]; omega)]
            exact putB_out _ _ _ (by rw [List.length_replicate]; omega)
          · rw [putB_out _ _ _ (by rw [leB_length]; omega), putB_out _ _ _ (by rw [leB_length]; omega), putB_out _ _ _ (by rw [List.length_replicate]; omega)]
            exact zero_at B k hi
        · rw [hup] at hall
          have hOk : ∀ f, 0 < T f → upF O k I.o f = O f := fun f hf => upF_ne _ _ (fun e => by rw [e] at hf; omega)
          refine ⟨20, gvn, _, _, _, _, rfl, hB', ⟨⟨s, _, L, _, hG', g2.foreign (fun i hi => putB_out _ _ _ (by
              rw [List.length_replicate]
              have : i / 256 ≠ k := fun e => by
                rcases hi with hi | ⟨k', hk', hi⟩
                · rw [e] at hi; rw [hi] at hTk; omega
                · have := (h.fs.tab k' _ hk' hi).2.2.1; rw [e] at this; omega
              omega))⟩, h.fs.owners hOk, h.nb, h.eb⟩, hC, ?_, Or.inr (Or.inr (Or.inl ⟨hg, hq, rfl, rfl, hOk, rfl, rfl, Or.inr ⟨hl, k, hkn, hTk, fun i hi hik => ?_⟩⟩))⟩
          · intro i hT hr hk'
            have : i / 256 ≠ k := fun e => by rw [e] at hT; omega
            exact putB_out _ _ _ (by rw [List.length_replicate]; omega)
          · have := hall i hi
            rw [upF_ne _ _ hik] at this; exact this
        · exact ⟨20, gvn, _, _, _, _, rfl, hB', ⟨⟨s, _, L, _, hG', g2⟩, h.fs, h.nb, h.eb⟩, hC, Kept.refl _ _ _ _, Or.inr (Or.inr (Or.inl ⟨hg, hq, rfl, rfl, fun _ _ => rfl, rfl, rfl, Or.inl hall⟩))⟩
    · refine (Give_quota hba g1 hp hpp hno (by omega) (by omega)).mono ?_
      rintro _ w' ⟨rfl, hgr⟩
      exact ⟨19, gvn, B, T, O, G, rfl, hba.chg (Chg.of_grows (S := []) hgr) (by simp) (by simp), h.grows hgr, Chg.of_grows hgr, Kept.refl _ _ _ _, Or.inr (Or.inl ⟨hg, by omega, rfl, rfl, rfl, rfl, rfl⟩)⟩
theorem take_no {w : World} {ba bv sv : Nat} {I : Ids} {B T O E : Nat → Nat} {quo : Nat → Int} {G : GS} {pages gvn tk : Int} {F : Int → Option Bool} (hba : BaAt w ba I.pm I.fp I.tb (I.o : Int) pages bv sv gvn tk F) (h : One w I B T O E quo G) {page : Nat} (hp : page < 1024) (hpp : (page : Int) < pages) (hg : G.pg page = none) :
    Calls Tryd.prog 34 #[.pointer (some ⟨ba, 0, none⟩), .int .i64 page] w fun e w' => e = .returned (.tuple #[.int .i64 0, .int .i64 14]) ∧ Grows w w' :=
  Take_none hba hpp (unmap_no h hp hg)
set_option maxHeartbeats 2000000 in
theorem take_one {w : World} {ba bv sv : Nat} {I : Ids} {B T O E : Nat → Nat} {quo : Nat → Int} {G : GS} {pages gvn tk : Int} {F : Int → Option Bool} (hba : BaAt w ba I.pm I.fp I.tb (I.o : Int) pages bv sv gvn tk F) (h : One w I B T O E quo G) (hd : BaSep ba bv I) {page : Nat} (hp : page < 1024) (hpp : (page : Int) < pages) {g : Pg} (hg : G.pg page = some g) (hsv : sv < 1000000) (htk : 0 ≤ tk ∧ tk < 1000000) :
    Calls Tryd.prog 34 #[.pointer (some ⟨ba, 0, none⟩), .int .i64 page] w fun e w' => e = .returned (.tuple #[.int .i64 g.fr, .int .i64 0]) ∧ ∃ (B' T' : Nat → Nat) (G' : GS), BaAt w' ba I.pm I.fp I.tb (I.o : Int) pages bv (if (F g.fr).isSome then sv else sv + 1) gvn (tk + 1) (bmUpd F g.fr true) ∧ One w' I B' T' O E quo G' ∧ Chg [I.fp, I.bt, I.bw, I.q, I.tb, I.bl, ba, bv] w w' ∧ Kept T I.rt G B B' ∧ UnR G page g T T' G' := by
  obtain ⟨a1, a2, a3, a4, a5, a6, a7, a8, a9⟩ := hd.a
  obtain ⟨v1, v2, v3, v4, v5, v6, v7, v8, v9⟩ := hd.v
  have hf := (h.fs.pgs page g hp hg).1
  have hnb := h.nb
  refine (Take_of hba hpp (f := g.fr) (by omega) hsv htk (by simp; omega) (by simp; omega) (unmap_one h hp hg)).mono ?_
  rintro _ w' ⟨rfl, w1, ⟨B', T', G', hO, hK, hU⟩, hC1, hC2, hB'⟩
  obtain ⟨s, c, L, low, g1, g2⟩ := hO.ex
  refine ⟨rfl, B', T', G', hB', ⟨⟨s, c, L, low, g1.apart hC2 (by simp; omega) (by simp; omega) (by simp; omega) (by simp; omega) (by simp; omega) (by simp; omega) (by simp; omega), g2⟩, hO.fs, hO.nb, hO.eb⟩, (hC1.weaken (fun k hk => Or.inl (by simp at hk ⊢; omega))).trans (hC2.weaken (fun k hk => Or.inl (by simp at hk ⊢; omega))), hK, hU⟩
set_option maxHeartbeats 2000000 in
theorem settle_one {w : World} {ba bv sv : Nat} {I : Ids} {B T O E : Nat → Nat} {quo : Nat → Int} {G : GS} {pages gvn tk : Int} {F : Int → Option Bool} (hba : BaAt w ba I.pm I.fp I.tb (I.o : Int) pages bv sv gvn tk F) (h : One w I B T O E quo G) (hd : BaSep ba bv I) {f : Nat} (hf : f < I.n) (hT : T f = 1) (hO : O f = I.o) (hF : F (f : Int) = some true) :
    Calls Tryd.prog 35 #[.pointer (some ⟨ba, 0, none⟩), .int .i64 f] w fun e w' => e = .returned (.int .i64 0) ∧ BaAt w' ba I.pm I.fp I.tb (I.o : Int) pages bv (sv - 1) gvn tk (bmDel F f) ∧ One w' I (putB B (f * 256) (List.replicate 256 0)) (upF T f 0) O E quo G ∧ Chg [I.fp, I.bt, I.bw, I.q, bv] w w' := by
  obtain ⟨a1, a2, a3, a4, a5, a6, a7, a8, a9⟩ := hd.a
  obtain ⟨v1, v2, v3, v4, v5, v6, v7, v8, v9⟩ := hd.v
  obtain ⟨s, c, L, low, g1, g2⟩ := h.ex
  obtain ⟨m1, m2, m3⟩ := h.fs.own f hf (by omega) hO
  have s1 := g1.st.sep
  have s2 := g1.apt
  have s3 := g1.apl
  have g3 := g1.apg I.fp (Or.inl rfl)
  have g4 := g1.apg I.bt (Or.inr (Or.inl rfl))
  have g5 := g1.apg I.bw (Or.inr (Or.inr (Or.inl rfl)))
  refine (Settle_ok hba g1.st.mem g1.fr g1.hnN hf hT hO m1 hF ⟨a1, a2, a3, a4, a6⟩ ⟨v1, v2, v3, v4, v6⟩ g1.apq).mono ?_
  rintro _ w' ⟨rfl, hF', hM', hB', hC⟩
  have hne : ∀ i, (i / 256 = I.rt ∨ ∃ k, k < 32 ∧ G.lw k = some (i / 256)) → i / 256 ≠ f := fun i hi e => by
    have ho := h.fs.og
    rcases hi with hi | ⟨k', hk', hi⟩
    · have := h.fs.root.2.2.2; rw [← hi, e, hO] at this; omega
    · have := (h.fs.tab k' _ hk' hi).2.2.2; rw [e, hO] at this; omega
  refine ⟨rfl, hB', h.foreign hF' hM' hC (by simp; omega) (by simp; omega) (by simp; omega) (by simp; omega) (fun i hi => ?_) (h.fs.freed hf hT hO) h.eb, hC⟩
  have := hne i hi
  exact putB_out _ _ _ (by rw [List.length_replicate]; omega)
end Go.Proofs.YtlchlklbjocliaaDoor

/- Two guests' tables in one memory: what one does leaves the other's. -/
namespace Go.Proofs.YtlchlklbjocliaaDoor
open Go Go.RowKit
set_option linter.unusedSimpArgs false
set_option linter.unusedVariables false
set_option maxRecDepth 100000
/-- The same memory and frames, another guest. -/
structure Kin (I J : Ids) : Prop where
  pm : J.pm = I.pm
  fp : J.fp = I.fp
  q : J.q = I.q
  N : J.N = I.N
  bt : J.bt = I.bt
  bw : J.bw = I.bw
  n : J.n = I.n
  first : J.first = I.first
  o : J.o ≠ I.o
theorem Kin.symm {I J : Ids} (h : Kin I J) : Kin J I := ⟨h.pm.symm, h.fp.symm, h.q.symm, h.N.symm, h.bt.symm, h.bw.symm, h.n.symm, h.first.symm, fun e => h.o e.symm⟩
/-- What a guest's call changes of times and owners. -/
def OwnCh (n o : Nat) (G : GS) (T O T' O' : Nat → Nat) : Prop :=
  ∀ f, f < n → (T' f = T f ∧ (0 < T f → O' f = O f)) ∨ (T f = 0 ∧ (O' f = o ∨ O' f = 0)) ∨ (0 < T f ∧ O f = o ∧ O' f = o) ∨ ((∃ k, k < 32 ∧ G.lw k = some f) ∧ T' f = 0)
/-- What a guest's call changes, as another one sees it. -/
structure StepR (n o rt : Nat) (G G' : GS) (T O T' O' B B' : Nat → Nat) : Prop where
  kept : ∀ i, 0 < T (i / 256) → O (i / 256) ≠ o → i / 256 ≠ rt → (∀ k, k < 32 → G.lw k ≠ some (i / 256)) → B' i = B i
  ch : OwnCh n o G T O T' O'
  lws : ∀ k t, k < 32 → G'.lw k = some t → G.lw k = some t ∨ T t = 0
def Sep (rt rt' : Nat) (G H : GS) : Prop := rt ≠ rt' ∧ (∀ k, k < 32 → G.lw k ≠ some rt') ∧ (∀ k, k < 32 → H.lw k ≠ some rt) ∧ ∀ k k' t, k < 32 → k' < 32 → G.lw k = some t → H.lw k' ≠ some t
theorem Sep.symm {rt rt' : Nat} {G H : GS} (h : Sep rt rt' G H) : Sep rt' rt H G :=
  ⟨fun e => h.1 e.symm, h.2.2.1, h.2.1, fun k k' t hk hk' h1 h2 => h.2.2.2 k' k t hk' hk h2 h1⟩
set_option maxHeartbeats 1000000 in
theorem One.other {w w' : World} {I J : Ids} {B T O E B' T' O' : Nat → Nat} {quo quo' : Nat → Int} {G G' H : GS} {S : List Nat} (hK : Kin I J) (h : One w I B T O E quo G) (hj : One w J B T O E quo H) (hs : Sep I.rt J.rt G H) (hst : StepR I.n I.o I.rt G G' T O T' O' B B') (h' : One w' I B' T' O' E quo' G') (hc : Chg S w w')
    (h1 : J.tb ∉ S) (h2 : J.bl ∉ S) (h3 : 1 ∉ S) (h4 : 0 ∉ S) : One w' J B' T' O' E quo' H ∧ Sep I.rt J.rt G' H := by
  obtain ⟨low', hF⟩ := h'.fr
  have hM := h'.mem
  have hgo := h.fs.og
  have hjo := hj.fs.og
  have hjr := hj.fs.root
  have hnotG : ∀ f, 0 < T f → O f = 0 → (f = J.rt ∨ ∃ k, k < 32 ∧ H.lw k = some f) → f ≠ I.rt ∧ ∀ k, k < 32 → G.lw k ≠ some f := fun f hT hO hf => by
    rcases hf with hf | ⟨k', hk', hf⟩
    · rw [hf]; exact ⟨fun e => hs.1 e.symm, fun k hk => hs.2.1 k hk⟩
    · exact ⟨fun e => hs.2.2.1 k' hk' (by rw [← e]; exact hf), fun k hk hh => hs.2.2.2 k k' f hk hk' hh hf⟩
  have htab : ∀ f, (f = J.rt ∨ ∃ k, k < 32 ∧ H.lw k = some f) → 0 < T f ∧ O f = 0 := fun f hf => by
    rcases hf with hf | ⟨k', hk', hf⟩
    · rw [hf]; exact ⟨by omega, hjr.2.2.2⟩
    · have := hj.fs.tab k' f hk' hf; exact ⟨by omega, this.2.2.2⟩
  have hfs : FsAt J.n J.first J.o J.rt T' O' E H := by
    refine hj.fs.foreign (fun f hf hh => ?_) (fun f hf hT' hO' => ?_)
    · rw [hK.n] at hf
      have hTf : 0 < T f ∧ O f ≠ I.o := by
        rcases hh with ⟨h5, h6⟩ | h5
        · exact ⟨h5, fun e => hK.o (by rw [← h6, e])⟩
        · have := htab f h5; exact ⟨this.1, by omega⟩
      rcases hst.ch f hf with ⟨c1, c2⟩ | ⟨c1, c2⟩ | ⟨c1, c2, c3⟩ | ⟨⟨k, hk, c1⟩, c2⟩
      · exact ⟨c1, c2 hTf.1⟩
      · omega
      · exact absurd c2 hTf.2
      · exfalso
        have hG := h.fs.tab k f hk c1
        rcases hh with ⟨h5, h6⟩ | h5
        · omega
        · exact (hnotG f hTf.1 hG.2.2.2 h5).2 k hk c1
    · rw [hK.n] at hf
      have ho := hK.o
      rcases hst.ch f hf with ⟨c1, c2⟩ | ⟨c1, c2⟩ | ⟨c1, c2, c3⟩ | ⟨⟨k, hk, c1⟩, c2⟩
      · have h0 : 0 < T f := by omega
        exact ⟨h0, by rw [← c2 h0]; exact hO'⟩
      · omega
      · omega
      · omega
  refine ⟨hj.foreign (low' := low') (by rw [hK.fp, hK.bt, hK.bw, hK.n, hK.first]; exact hF) (by rw [hK.pm, hK.q, hK.N]; exact hM) hc h1 h2 h3 h4 (fun i hi => ?_) hfs hj.eb, hs.1, fun k hk hh => ?_, hs.2.2.1, fun k k' t hk hk' hh hh' => ?_⟩
  · obtain ⟨t1, t2⟩ := htab _ hi
    obtain ⟨n1, n2⟩ := hnotG _ t1 t2 hi
    exact hst.kept i t1 (by omega) n1 n2
  · rcases hst.lws k _ hk hh with h5 | h5
    · exact hs.2.1 k hk h5
    · omega
  · rcases hst.lws k _ hk hh with h5 | h5
    · exact hs.2.2.2 k k' t hk hk' h5 hh'
    · have := hj.fs.tab k' t hk' hh'; omega
theorem StepR.refl (n o rt : Nat) (G : GS) (T O B : Nat → Nat) : StepR n o rt G G T O T O B B := ⟨fun _ _ _ _ _ => rfl, fun f _ => Or.inl ⟨rfl, fun _ => rfl⟩, fun _ _ _ h => Or.inl h⟩
theorem StepR.give {n first o rt page : Nat} {T O T' O' B B' : Nat → Nat} {quo : Nat → Int} {G G' : GS} {gvn er gv' : Int} (hR : GiveR n first o T O quo G page gvn er gv' B' T' O' G') (hK : Kept T rt G B B') : StepR n o rt G G' T O T' O' B B' := by
  refine ⟨fun i h1 _ h2 h3 => hK i h1 h2 h3, fun f hf => ?_, fun k t hk hh => ?_⟩
  · rcases hR with ⟨h1, rfl, rfl, rfl, rfl, rfl⟩ | ⟨h1, h2, rfl, rfl, rfl, rfl, rfl⟩ | ⟨h1, h2, rfl, rfl, hO, rfl, rfl, h3⟩ | ⟨h1, h2, rfl, rfl, k, hk, hfk, hTk, hz, ⟨_, rfl, rfl, rfl⟩ | ⟨hl, t, ht, hft, htk, hTt, rfl, rfl, rfl⟩⟩
    · exact Or.inl ⟨rfl, fun _ => rfl⟩
    · exact Or.inl ⟨rfl, fun _ => rfl⟩
    · exact Or.inl ⟨rfl, fun h => hO f h⟩
    · by_cases e : f = k
      · rw [e, upF_same]; exact Or.inr (Or.inl ⟨hTk, Or.inl (upF_same _ _ _)⟩)
      · rw [upF_ne _ _ e, upF_ne _ _ e]; exact Or.inl ⟨rfl, fun _ => rfl⟩
    · by_cases e2 : f = t
      · rw [e2, upF_same, upF_same]; exact Or.inr (Or.inl ⟨hTt, Or.inr rfl⟩)
      · rw [upF_ne _ _ e2, upF_ne _ _ e2]
        by_cases e : f = k
        · rw [e, upF_same]; exact Or.inr (Or.inl ⟨hTk, Or.inl (upF_same _ _ _)⟩)
        · rw [upF_ne _ _ e, upF_ne _ _ e]; exact Or.inl ⟨rfl, fun _ => rfl⟩
  · rcases hR with ⟨h1, rfl, rfl, rfl, rfl, rfl⟩ | ⟨h1, h2, rfl, rfl, rfl, rfl, rfl⟩ | ⟨h1, h2, rfl, rfl, hO, rfl, rfl, h3⟩ | ⟨h1, h2, rfl, rfl, k', hk', hfk, hTk, hz, ⟨_, rfl, rfl, rfl⟩ | ⟨hl, t', ht, hft, htk, hTt, rfl, rfl, rfl⟩⟩
    · exact Or.inl hh
    · exact Or.inl hh
    · exact Or.inl hh
    · exact Or.inl hh
    · by_cases e : k = page / 32
      · rw [e, GS.setLw_same] at hh; injection hh with hh; rw [← hh]; exact Or.inr hTt
      · rw [GS.setLw_ne _ _ e] at hh; exact Or.inl hh
theorem StepR.un {n o rt page : Nat} {T O T' B B' : Nat → Nat} {G G' : GS} {g : Pg} (hR : UnR G page g T T' G') (hp : page < 1024) (hT : 0 < T g.fr) (hO : O g.fr = o) (hK : Kept T rt G B B') : StepR n o rt G G' T O T' O B B' := by
  obtain ⟨t, hl, hTt, hne, hR⟩ := hR
  refine ⟨fun i h1 _ h2 h3 => hK i h1 h2 h3, fun f hf => ?_, fun k t' hk hh => ?_⟩
  · rcases hR with ⟨_, rfl, rfl⟩ | ⟨_, rfl, rfl⟩
    · by_cases e : f = g.fr
      · rw [e]; exact Or.inr (Or.inr (Or.inl ⟨hT, hO, hO⟩))
      · rw [upF_ne _ _ e]; exact Or.inl ⟨rfl, fun _ => rfl⟩
    · by_cases e2 : f = t
      · rw [e2]; exact Or.inr (Or.inr (Or.inr ⟨⟨page / 32, by omega, hl⟩, upF_same _ _ _⟩))
      · rw [upF_ne _ _ e2]
        by_cases e : f = g.fr
        · rw [e]; exact Or.inr (Or.inr (Or.inl ⟨hT, hO, hO⟩))
        · rw [upF_ne _ _ e]; exact Or.inl ⟨rfl, fun _ => rfl⟩
  · rcases hR with ⟨_, rfl, rfl⟩ | ⟨_, rfl, rfl⟩
    · exact Or.inl hh
    · by_cases e : k = page / 32
      · rw [e, GS.setLw_same] at hh; cases hh
      · rw [GS.setLw_ne _ _ e] at hh; exact Or.inl hh
theorem StepR.settle {n o rt f : Nat} {T O B : Nat → Nat} {G : GS} (hT : 0 < T f) (hO : O f = o) : StepR n o rt G G T O (upF T f 0) O B (putB B (f * 256) (List.replicate 256 0)) := by
  refine ⟨fun i h1 h2 _ _ => ?_, fun j hj => ?_, fun _ _ _ h => Or.inl h⟩
  · have : i / 256 ≠ f := fun e => h2 (by rw [e]; exact hO)
    exact putB_out _ _ _ (by rw [List.length_replicate]; omega)
  · by_cases e : j = f
    · rw [e]; exact Or.inr (Or.inr (Or.inl ⟨hT, hO, hO⟩))
    · rw [upF_ne _ _ e]; exact Or.inl ⟨rfl, fun _ => rfl⟩
theorem ownC_lt_n {n j o : Nat} {T O : Nat → Nat} (hj : j < n) (h : T j = 0 ∨ O j ≠ o) : ownC n T O o < n := by
  unfold ownC
  have h1 := cn_add (p := fun i => decide (0 < T i ∧ O i = o)) (q := fun i => if i = j then true else decide (0 < T i ∧ O i = o)) hj (fun i _ hi => by rw [if_neg hi]) (by simp; omega) (by simp)
  have h2 := cn_le (p := fun i => if i = j then true else decide (0 < T i ∧ O i = o)) (n := n)
  omega
/-- All blocks that a guest with a balloon changes. -/
def S8 (I : Ids) (ba bv : Nat) : List Nat := [I.fp, I.bt, I.bw, I.q, I.tb, I.bl, ba, bv]
theorem S8_give (I : Ids) (ba bv : Nat) : ∀ k ∈ [I.fp, I.bt, I.bw, I.q, I.tb, ba, I.bl], k ∈ S8 I ba bv := by
  intro k hk
  simp [S8] at hk ⊢
  omega
theorem S8_take (I : Ids) (ba bv : Nat) : ∀ k ∈ [I.fp, I.bt, I.bw, I.q, I.tb, I.bl, ba, bv], k ∈ S8 I ba bv := fun k hk => hk
theorem S8_settle (I : Ids) (ba bv : Nat) : ∀ k ∈ [I.fp, I.bt, I.bw, I.q, bv], k ∈ S8 I ba bv := by
  intro k hk
  simp [S8] at hk ⊢
  omega
theorem S8_q (I : Ids) (ba bv : Nat) : ∀ k ∈ [I.q], k ∈ S8 I ba bv := by
  intro k hk
  simp [S8] at hk ⊢
  omega
theorem to8 {I : Ids} {ba bv : Nat} {S : List Nat} {w w' : World} (h : Chg S w w') (hS : ∀ k ∈ S, k ∈ S8 I ba bv) : Chg (S8 I ba bv) w w' := h.weaken (fun k hk => Or.inl (hS k hk))
/-- Two balloons' blocks are apart. -/
structure PSep (I J : Ids) (ba bv ja jv : Nat) : Prop where
  kin : Kin I J
  si : BaSep ba bv I
  sj : BaSep ja jv J
  xi : ∀ b, b = J.tb ∨ b = J.bl ∨ b = ja ∨ b = jv ∨ b = 1 ∨ b = 0 → b ∉ S8 I ba bv
  xj : ∀ b, b = I.tb ∨ b = I.bl ∨ b = ba ∨ b = bv ∨ b = 1 ∨ b = 0 → b ∉ S8 J ja jv
theorem PSep.symm {I J : Ids} {ba bv ja jv : Nat} (h : PSep I J ba bv ja jv) : PSep J I ja jv ba bv :=
  ⟨h.kin.symm, h.sj, h.si, h.xj, h.xi⟩
theorem PSep.n1 {I J : Ids} {ba bv ja jv : Nat} (h : PSep I J ba bv ja jv) : J.tb ∉ S8 I ba bv := h.xi _ (Or.inl rfl)
theorem PSep.n2 {I J : Ids} {ba bv ja jv : Nat} (h : PSep I J ba bv ja jv) : J.bl ∉ S8 I ba bv := h.xi _ (Or.inr (Or.inl rfl))
theorem PSep.n3 {I J : Ids} {ba bv ja jv : Nat} (h : PSep I J ba bv ja jv) : ja ∉ S8 I ba bv := h.xi _ (Or.inr (Or.inr (Or.inl rfl)))
theorem PSep.n4 {I J : Ids} {ba bv ja jv : Nat} (h : PSep I J ba bv ja jv) : jv ∉ S8 I ba bv := h.xi _ (Or.inr (Or.inr (Or.inr (Or.inl rfl))))
theorem PSep.n5 {I J : Ids} {ba bv ja jv : Nat} (h : PSep I J ba bv ja jv) : 1 ∉ S8 I ba bv := h.xi _ (Or.inr (Or.inr (Or.inr (Or.inr (Or.inl rfl)))))
theorem PSep.n6 {I J : Ids} {ba bv ja jv : Nat} (h : PSep I J ba bv ja jv) : 0 ∉ S8 I ba bv := h.xi _ (Or.inr (Or.inr (Or.inr (Or.inr (Or.inr rfl)))))
def bal1 (w : World) (I : Ids) (ba bv : Nat) (M : Int) (G : GS) : Prop := ∃ gvn tk, BaAt w ba I.pm I.fp I.tb (I.o : Int) 8 bv 0 gvn tk (fun _ => none) ∧ gvn = tk + (cntP G 0 : Nat) ∧ 0 ≤ tk ∧ tk ≤ M
/-- Two guests with balloons; what is given is had twice. -/
structure PairAt (w : World) (I J : Ids) (ba bv ja jv : Nat) (M : Int) (B T O : Nat → Nat) (G H : GS) : Prop where
  i : One w I B T O (fun _ => 1) (fun _ => (I.n : Int)) G
  j : One w J B T O (fun _ => 1) (fun _ => (I.n : Int)) H
  bi : bal1 w I ba bv M G
  bj : bal1 w J ja jv M H
  two : ∀ f, f < I.n → 0 < T f → (O f = I.o ∨ O f = J.o) → T f = 2
  oi : ∀ p, 8 ≤ p → G.pg p = none
  oj : ∀ p, 8 ≤ p → H.pg p = none
  sep : Sep I.rt J.rt G H
theorem PairAt.symm {w : World} {I J : Ids} {ba bv ja jv : Nat} {M : Int} {B T O : Nat → Nat} {G H : GS} (hk : Kin I J) (h : PairAt w I J ba bv ja jv M B T O G H) : PairAt w J I ja jv ba bv M B T O H G :=
  ⟨by rw [hk.n]; exact h.j, by rw [hk.n]; exact h.i, h.bj, h.bi, fun f hf hT hO => h.two f (by rw [← hk.n]; exact hf) hT hO.symm, h.oj, h.oi, h.sep.symm⟩
theorem bal1.chg {w w' : World} {I : Ids} {ba bv : Nat} {M : Int} {G : GS} {S : List Nat} (h : bal1 w I ba bv M G) (hc : Chg S w w') (h1 : ba ∉ S) (h2 : bv ∉ S) : bal1 w' I ba bv M G := by
  obtain ⟨gvn, tk, hb, h3⟩ := h
  exact ⟨gvn, tk, hb.chg hc h1 h2, h3⟩
theorem PairAt.grows {w w' : World} {I J : Ids} {ba bv ja jv : Nat} {M : Int} {B T O : Nat → Nat} {G H : GS} (h : PairAt w I J ba bv ja jv M B T O G H) (hg : Grows w w') : PairAt w' I J ba bv ja jv M B T O G H :=
  ⟨h.i.grows hg, h.j.grows hg, h.bi.chg (Chg.of_grows (S := []) hg) (by simp) (by simp), h.bj.chg (Chg.of_grows (S := []) hg) (by simp) (by simp), h.two, h.oi, h.oj, h.sep⟩
set_option maxHeartbeats 4000000 in
theorem pair_give {w : World} {I J : Ids} {ba bv ja jv : Nat} {M : Int} {B T O : Nat → Nat} {G H : GS} (h : PairAt w I J ba bv ja jv M B T O G H) (hs : PSep I J ba bv ja jv) (hM : M ≤ 100) {page : Nat} (hp : page < 8) (hg : G.pg page = none) :
    Calls Tryd.prog 36 #[.pointer (some ⟨ba, 0, none⟩), .int .i64 page] w fun e w' => ∃ er : Int, e = .returned (.int .i64 er) ∧ Chg (S8 I ba bv) w w' ∧ ((er = 20 ∧ ∃ B' T' O' G', PairAt w' I J ba bv ja jv M B' T' O' G' H) ∨
      (er = 0 ∧ ∃ B' T' O' G' k, PairAt w' I J ba bv ja jv M B' T' O' G' H ∧ G'.pg page = some ⟨k, true, true, true⟩ ∧ k < I.n ∧ T' k = 2 ∧ O' k = I.o ∧ ∀ i, i < 256 → B' (k * 256 + i) = 0)) := by
  obtain ⟨gvn, tk, hb, hg1, hg2, hg3⟩ := h.bi
  have hc := cntP_le G 0
  have hr := h.i.fs.root
  have ho := h.i.fs.og
  have hjo := h.j.fs.og
  have hown := ownC_lt_n (o := I.o) (T := T) (O := O) hr.1 (Or.inr (by omega))
  refine (give_all hb h.i hs.si (page := page) (by omega) (by omega) (by omega) (fun _ _ _ => rfl) (by omega)).mono ?_
  rintro _ w' ⟨er, gv', B', T', O', G', rfl, hB', hO', hC, hK, hR⟩
  have hC := to8 hC (S8_give I ba bv)
  obtain ⟨hj', hsep'⟩ := One.other hs.kin h.i h.j h.sep (StepR.give hR hK) hO' hC hs.n1 hs.n2 hs.n5 hs.n6
  have hbj := h.bj.chg hC hs.n3 hs.n4
  have h32 : page / 32 = 0 := by omega
  refine ⟨er, rfl, hC, ?_⟩
  rcases hR with ⟨h1, _⟩ | ⟨h1, h2, _⟩ | ⟨h1, h2, rfl, rfl, hO, rfl, rfl, h3⟩ | ⟨h1, h2, rfl, rfl, k, hk, hfk, hTk, hz, ⟨_, rfl, rfl, rfl⟩ | ⟨hl, t, ht, hft, htk, hTt, rfl, rfl, rfl⟩⟩
  · exact absurd hg h1
  · exact absurd (show (I.n : Int) ≤ ownC I.n T O I.o from h2) (by omega)
  · exact Or.inl ⟨rfl, _, _, _, _, hO', hj', ⟨_, tk, hB', hg1, hg2, hg3⟩, hbj, fun f hf hT hOf => h.two f hf hT (by rw [hO f hT] at hOf; exact hOf), h.oi, h.oj, hsep'⟩
  · have hca := cntP_add (g := ⟨k, true, true, true⟩) h1
    rw [h32] at hca
    refine Or.inr ⟨rfl, _, _, _, _, k, ⟨hO', hj', ⟨_, tk, hB', by omega, hg2, hg3⟩, hbj, fun f hf hT hOf => ?_, fun p hp' => by rw [GS.set_ne _ _ (by omega)]; exact h.oi p hp', h.oj, hsep'⟩, GS.set_same _ _ _, hk, upF_same _ _ _, upF_same _ _ _, hz⟩
    by_cases e : f = k
    · rw [e, upF_same]
    · rw [upF_ne _ _ e] at hT hOf ⊢; exact h.two f hf hT hOf
  · have hca := cntP_add (g := ⟨k, true, true, true⟩) h1
    rw [h32] at hca
    refine Or.inr ⟨rfl, _, _, _, _, k, ⟨hO', hj', ⟨_, tk, hB', by rw [cntP_setLw]; omega, hg2, hg3⟩, hbj, fun f hf hT hOf => ?_, fun p hp' => by rw [GS.setLw_pg, GS.set_ne _ _ (by omega)]; exact h.oi p hp', h.oj, hsep'⟩, by rw [GS.setLw_pg, GS.set_same], hk, by rw [upF_ne _ _ (fun e => htk e.symm), upF_same], by rw [upF_ne _ _ (fun e => htk e.symm), upF_same], hz⟩
    by_cases e2 : f = t
    · rw [e2, upF_same] at hOf; omega
    · rw [upF_ne _ _ e2] at hT hOf ⊢
      by_cases e : f = k
      · rw [e, upF_same]
      · rw [upF_ne _ _ e] at hT hOf ⊢; exact h.two f hf hT hOf
theorem bmDel_upd' {F : Int → Option Bool} {x : Int} (h : F x = none) : bmDel (bmUpd F x true) x = F := by
  funext y; unfold bmDel bmUpd
  split
  · rename_i e; rw [e, h]
  · rfl
set_option maxHeartbeats 4000000 in
theorem pair_take {w : World} {I J : Ids} {ba bv ja jv : Nat} {M : Int} {B T O : Nat → Nat} {G H : GS} (h : PairAt w I J ba bv ja jv M B T O G H) (hs : PSep I J ba bv ja jv) (hM : M ≤ 100) {page : Nat} (hp : page < 8) {g : Pg} (hg : G.pg page = some g) :
    Calls Tryd.prog 34 #[.pointer (some ⟨ba, 0, none⟩), .int .i64 page] w fun e w' => e = .returned (.tuple #[.int .i64 g.fr, .int .i64 0]) ∧ Chg (S8 I ba bv) w w' ∧
      Calls Tryd.prog 35 #[.pointer (some ⟨ba, 0, none⟩), .int .i64 g.fr] w' fun e w'' => e = .returned (.int .i64 0) ∧ Chg (S8 I ba bv) w w'' ∧ ∃ B' T' O' G', PairAt w'' I J ba bv ja jv (M + 1) B' T' O' G' H := by
  obtain ⟨gvn, tk, hb, hg1, hg2, hg3⟩ := h.bi
  have hc := cntP_le G 0
  have ho := h.i.fs.og
  have hjo := h.j.fs.og
  obtain ⟨q1, q2, q3⟩ := h.i.fs.pgs page g (by omega) hg
  have hT2 := h.two _ q1 q2 (Or.inl q3)
  refine (take_one hb h.i hs.si (page := page) (by omega) (by omega) hg (by omega) (by omega)).mono ?_
  rintro _ w' ⟨rfl, B', T', G', hB', hO', hC, hK, hU⟩
  have hC := to8 hC (S8_take I ba bv)
  obtain ⟨hj', hsep'⟩ := One.other hs.kin h.i h.j h.sep (StepR.un hU (by omega) q2 q3 hK) hO' hC hs.n1 hs.n2 hs.n5 hs.n6
  have hbj := h.bj.chg hC hs.n3 hs.n4
  have h32 : page / 32 = 0 := by omega
  refine ⟨rfl, hC, ?_⟩
  have hT1 : T' g.fr = 1 := by
    obtain ⟨t, hl, hTt, hne, ⟨_, rfl, rfl⟩ | ⟨_, rfl, rfl⟩⟩ := hU
    · rw [upF_same]; omega
    · rw [upF_ne _ _ hne, upF_same]; omega
  refine (settle_one hB' hO' hs.si q1 hT1 q3 (by unfold bmUpd; rw [if_pos rfl])).mono ?_
  rintro _ w'' ⟨rfl, hB2, hO2, hC2⟩
  have hC2 := to8 hC2 (S8_settle I ba bv)
  rw [bmDel_upd' rfl] at hB2
  obtain ⟨hj2, hsep2⟩ := One.other hs.kin hO' hj' hsep' (StepR.settle (rt := I.rt) (n := I.n) (by omega) q3) hO2 hC2 hs.n1 hs.n2 hs.n5 hs.n6
  have hbj2 := hbj.chg hC2 hs.n3 hs.n4
  have hcd := cntP_del hg
  rw [h32] at hcd
  have hcG : cntP G' 0 = cntP (G.set page none) 0 := by
    obtain ⟨t, hl, hTt, hne, ⟨_, rfl, rfl⟩ | ⟨_, rfl, rfl⟩⟩ := hU
    · rfl
    · rw [cntP_setLw]
  refine ⟨rfl, hC.trans hC2, _, _, O, G', hO2, hj2, ⟨gvn, tk + 1, hB2, by rw [hcG]; omega, by omega, by omega⟩, (by obtain ⟨gj, tj, z1, z2, z3, z4⟩ := hbj2; exact ⟨gj, tj, z1, z2, z3, by omega⟩), fun f hf hT hOf => ?_, fun p hp' => ?_, h.oj, hsep2⟩
  · by_cases e : f = g.fr
    · rw [e, upF_same] at hT; omega
    · rw [upF_ne _ _ e] at hT ⊢
      obtain ⟨t, hl, hTt, hne, ⟨_, rfl, rfl⟩ | ⟨_, rfl, rfl⟩⟩ := hU
      · rw [upF_ne _ _ e] at hT ⊢; exact h.two f hf hT hOf
      · by_cases e2 : f = t
        · rw [e2, upF_same] at hT; omega
        · rw [upF_ne _ _ e2, upF_ne _ _ e] at hT ⊢; exact h.two f hf hT hOf
  · obtain ⟨t, hl, hTt, hne, ⟨_, rfl, rfl⟩ | ⟨_, rfl, rfl⟩⟩ := hU
    · rw [GS.set_ne _ _ (by omega)]; exact h.oi p hp'
    · rw [GS.setLw_pg, GS.set_ne _ _ (by omega)]; exact h.oi p hp'
theorem pair_take_no {w : World} {I J : Ids} {ba bv ja jv : Nat} {M : Int} {B T O : Nat → Nat} {G H : GS} (h : PairAt w I J ba bv ja jv M B T O G H) {page : Nat} (hp : page < 8) (hg : G.pg page = none) :
    Calls Tryd.prog 34 #[.pointer (some ⟨ba, 0, none⟩), .int .i64 page] w fun e w' => e = .returned (.tuple #[.int .i64 0, .int .i64 14]) ∧ Grows w w' := by
  obtain ⟨gvn, tk, hb, hg1, hg2, hg3⟩ := h.bi
  exact take_no hb h.i (by omega) (by omega) hg
/-- Bytes are put into a page's frame. -/
theorem PairAt.put {w w' : World} {I J : Ids} {ba bv ja jv : Nat} {M : Int} {B T O : Nat → Nat} {G H : GS} (h : PairAt w I J ba bv ja jv M B T O G H) (hs : PSep I J ba bv ja jv) {f : Nat} {bs : List Nat} (hT : T f = 2) (hbs : bs.length ≤ 256) (hM : Mem w' I.pm I.q I.N (putB B (f * 256) bs)) (hc : Chg [I.q] w w') : PairAt w' I J ba bv ja jv M (putB B (f * 256) bs) T O G H := by
  obtain ⟨low, hF⟩ := h.i.fr
  have hq : ∀ b, b ∉ S8 I ba bv → b ∉ [I.q] := fun b hb hh => hb (S8_q I ba bv b hh)
  have hq' : ∀ b, b ∉ S8 J ja jv → b ∉ [I.q] := fun b hb hh => hb (S8_q J ja jv b (by rw [hs.kin.q]; exact hh))
  have hF' : FrAt w' I.fp I.bt I.bw I.n I.first T O (fun _ => (I.n : Int)) low := by
    obtain ⟨s, c, L, low2, g1, g2⟩ := h.i.ex
    have y1 := g1.apq
    exact hF.chg hc ⟨by simp; omega, by simp; omega, by simp; omega⟩
  have hnot : ∀ {X : Ids} {K : GS}, FsAt X.n X.first X.o X.rt T O (fun _ => 1) K → ∀ i, (i / 256 = X.rt ∨ ∃ k, k < 32 ∧ K.lw k = some (i / 256)) → putB B (f * 256) bs i = B i := fun hfs i hi => by
    have : i / 256 ≠ f := fun e => by
      rcases hi with hi | ⟨k', hk', hi⟩
      · have := hfs.root.2.2.1; rw [← hi, e] at this; omega
      · have := (hfs.tab k' _ hk' hi).2.2.1; rw [e] at this; omega
    exact putB_out _ _ _ (by omega)
  exact ⟨h.i.foreign hF' hM hc (hq' _ hs.symm.n1) (hq' _ hs.symm.n2) (hq _ hs.n5) (hq _ hs.n6) (hnot h.i.fs) h.i.fs h.i.eb,
    h.j.foreign (by rw [hs.kin.fp, hs.kin.bt, hs.kin.bw, hs.kin.n, hs.kin.first]; exact hF') (by rw [hs.kin.pm, hs.kin.q, hs.kin.N]; exact hM) hc (hq _ hs.n1) (hq _ hs.n2) (hq _ hs.n5) (hq _ hs.n6) (hnot h.j.fs) h.j.fs h.j.eb,
    h.bi.chg hc (hq' _ hs.symm.n3) (hq' _ hs.symm.n4), h.bj.chg hc (hq _ hs.n3) (hq _ hs.n4), h.two, h.oi, h.oj, h.sep⟩
end Go.Proofs.YtlchlklbjocliaaDoor

/- Chapter 25: zero of a frame. -/
namespace Go.Proofs.YtlchlklbjocliaaDoor
open Go Go.RowKit
set_option linter.unusedSimpArgs false
set_option linter.unusedVariables false
set_option maxRecDepth 100000
theorem wpAnyH_monoZ {P : Program} {md : Region.Mode} {ops : Array Oper} {Q : Exit → Act → World → Prop} {S T : World → Prop} (h : ∀ w, T w → S w) :
    ∀ (fuel : Nat) (listed : Array Bool) (a : Act) (w : World), wpAnyH P md ops Q T fuel listed a w → wpAnyH P md ops Q S fuel listed a w
  | 0, _, _, _, g => g
  | fuel + 1, _, _, _, g => ⟨g.1, fun i hi => wpOp_mono (fun a' w' h' => ⟨h _ h'.1, wpAnyH_monoZ h fuel _ a' w' h'.2⟩) (g.2 i hi)⟩
theorem run_make_u8z (N : Nat) (hN : N ≤ 16777216) (w : World) : (Instr.makeSlice 70 (.int .i64 N) (.int .i64 N)).run Tryd.prog w =
    .ok (.slice (some ⟨w.heap.size, 0, none⟩) N N) (w.alloc (.cells (madeCells #[.int .u8 0] N) 5)) := by
  obtain ⟨i0, hi, hz0, hz1, hz2⟩ := info_parts info_u8
  have h := run_make (P := Tryd.prog) w 70 5 i0 (.int .u8 0) Tryd.underlying70 hi hz0 .i64 .i64 (N : Int) (N : Int) (by omega) (by omega) (by rw [hz2]; omega) (by omega)
  rw [h, hz1]
  simp
  rfl
theorem btz_conv {w : World} {b k c : Nat} {C : Nat → Nat} (h : Bts w b k C) : (convert 70 9 (.slice (some ⟨b, 0, none⟩) k c)).run Tryd.prog w = .ok (.string (strB (segB C 0 k))) w :=
  conv_bytes (segB_length _ _ _) (segB_bytes h 0 k (by omega))
set_option maxRecDepth 100000 in
set_option maxHeartbeats 1000000 in
set_option maxHeartbeats 4000000 in
theorem zero_yes {w : World} {wb pm q N : Nat} {B : Nat → Nat} {r : Array Value} {t : TypeId} (hM : Mem w pm q N B) (hR : Row w wb r t) (h0 : r[0]? = some (.pointer (some ⟨pm, 0, none⟩))) {f : Nat} (hf : f * 256 + 256 ≤ N) (hN : f < 65536) (hz : ∀ i, i < 256 → B (f * 256 + i) = 0) :
    Calls Tryd.prog 37 #[.pointer (some ⟨wb, 0, none⟩), .int .i64 f] w fun e w' => e = .returned (.bool true) ∧ Grows w w' := by
  have hb := Bytes_ok hM (f * 256) 256 hf
  have lt := hR.lt
  have c0 : w.cell? ⟨wb, 0, none⟩ = some (.pointer (some ⟨pm, 0, none⟩)) := (hR.cell 0).trans h0
  have wm : IntKind.i64.wrap (256 * (f : Int)) = ((f * 256 : Nat) : Int) := by rw [IntKind.wrap_i64]; omega
  have wu : IntKind.u64.wrap ((f * 256 : Nat) : Int) = ((f * 256 : Nat) : Int) := by rw [IntKind.wrap_u64]; omega
  obtain ⟨A, hA⟩ : ∃ A : Nat, A = f * 256 := ⟨_, rfl⟩
  rw [← hA] at hb wm wu hz
  clear hM hR h0 hf hN hA
  go_enter Tryd.func37, Tryd.ntmps37
  go_wp2_with fail
  refine hb.mono ?_
  rintro _ w1 ⟨v, rfl, b1, c1, rfl, s1, s2, hg1, hb1, hB1⟩
  have k1 : ∀ w, Grows w1 w → (convert 70 9 (.slice (some ⟨b1, 0, none⟩) 256 c1)).run Tryd.prog w = .ok (.string (strB (segB (fun _ => 0) 0 256))) w := fun w hg => btz_conv (c := c1) ((hB1.congr (C := fun _ => 0) hz).grows hg)
  have hmk : ∀ w, (Instr.makeSlice 70 (.int .i64 256) (.int .i64 256)).run Tryd.prog w = .ok (.slice (some ⟨w.heap.size, 0, none⟩) 256 256) (w.alloc (.cells (madeCells #[.int .u8 0] 256) 5)) := fun w => run_make_u8z 256 (by omega) w
  have k4 : ∀ w, Grows ((w1.alloc (.cells (madeCells #[.int .u8 0] 256) 5)).drew) w → (convert 70 9 (.slice (some ⟨w1.heap.size, 0, none⟩) 256 256)).run Tryd.prog w = .ok (.string (strB (segB (fun _ => 0) 0 256))) w := fun w hg => btz_conv (c := 256) (((Bts.made w1 256 _).grows ((Grows.refl _).drew)).grows hg)
  have HG1 := Lib.hid hg1
  generalize strB (segB (fun _ => 0) 0 256) = S0 at *
  clear hb hz c0 lt wm wu hg1 hb1 hB1
  go_wp2_with fail
  refine wp_region_held_drew (S := fun w' => Grows w1 w') (by kernel_rfl) (Grows.refl _).drew (fun hHeld => ?_)
  refine wpAnyH_take (i := 0) (v := ?_) rfl (by kernel_rfl) (by kernel_rfl) (by kernel_rfl) (fun _ _ _ h => h) (Or.inl ⟨by rfl, ?_⟩) (by assumption) ?_
  rotate_left
  · intro w hSw
    go_simp
    try with_reducible rfl
  simp only [List.getElem_toArray, List.getElem_cons_succ, List.getElem_cons_zero, Act.put, List.setIfInBounds_toArray, List.set_cons_zero, List.set_cons_succ]
  refine wpAnyH_take (i := 1) (v := ?_) rfl (by kernel_rfl) (by kernel_rfl) (by kernel_rfl) (fun _ _ _ h => h) (Or.inl ⟨by rfl, ?_⟩) (by assumption) ?_
  rotate_left
  · intro w hSw
    go_simp
    try with_reducible rfl
  simp only [List.getElem_toArray, List.getElem_cons_succ, List.getElem_cons_zero, Act.put, List.setIfInBounds_toArray, List.set_cons_zero, List.set_cons_succ]
  refine wpAnyH_take (i := 2) (v := ?_) rfl (by kernel_rfl) (by kernel_rfl) (by kernel_rfl) (fun _ _ _ h => h) (Or.inl ⟨by rfl, ?_⟩) (by assumption) ?_
  rotate_left
  · intro w hSw
    go_simp
    try with_reducible rfl
  simp only [List.getElem_toArray, List.getElem_cons_succ, List.getElem_cons_zero, Act.put, List.setIfInBounds_toArray, List.set_cons_zero, List.set_cons_succ]
  refine wpAnyH_take (i := 3) (v := ?_) rfl (by kernel_rfl) (by kernel_rfl) (by kernel_rfl) (fun _ _ _ h => h) (Or.inl ⟨by rfl, ?_⟩) (by assumption) ?_
  rotate_left
  · intro w hSw
    go_simp
    try with_reducible rfl
  simp only [List.getElem_toArray, List.getElem_cons_succ, List.getElem_cons_zero, Act.put, List.setIfInBounds_toArray, List.set_cons_zero, List.set_cons_succ]
  refine wpAnyH_take (i := 4) (v := ?_) rfl (by kernel_rfl) (by kernel_rfl) (by kernel_rfl) (fun _ _ _ h => h) (Or.inl ⟨by rfl, ?_⟩) (by assumption) ?_
  rotate_left
  · intro w hSw
    go_simp
    try with_reducible rfl
  simp only [List.getElem_toArray, List.getElem_cons_succ, List.getElem_cons_zero, Act.put, List.setIfInBounds_toArray, List.set_cons_zero, List.set_cons_succ]
  refine wpAnyH_ready (rs := [5]) (by kernel_rfl) (by simp) ?_
  refine AllReadyH.cons rfl (fun K hK => ?_) AllReadyH.nil
  go_simp
  refine hK.out _ _ (((Grows.refl _).alloc _).drew) (fun hHeld2 => ?_)
  clear hK K
  refine wpAnyH_monoZ (T := fun w' => Grows ((w1.alloc (.cells (madeCells #[.int .u8 0] 256) 5)).drew) w') (fun w hw => (((Grows.refl w1).alloc _).drew).trans hw) _ _ _ _ ?_
  have hHeld3 := Grows.refl ((w1.alloc (.cells (madeCells #[.int .u8 0] 256) 5)).drew)
  have HG2 := Lib.hid (HG1.out.trans (((Grows.refl w1).alloc (.cells (madeCells #[.int .u8 0] 256) 5)).drew))
  clear hHeld hHeld2 hmk k1
  generalize ((w1.alloc (.cells (madeCells #[.int .u8 0] 256) 5)).drew) = w7 at *
  refine wpAnyH_take (i := 6) (v := ?_) rfl (by kernel_rfl) (by kernel_rfl) (by kernel_rfl) (fun _ _ _ h => h) (Or.inl ⟨by rfl, ?_⟩) (by assumption) ?_
  rotate_left
  · intro w hSw
    go_simp
    try with_reducible rfl
  simp only [List.getElem_toArray, List.getElem_cons_succ, List.getElem_cons_zero, Act.put, List.setIfInBounds_toArray, List.set_cons_zero, List.set_cons_succ]
  refine wpAnyH_take (i := 7) (v := ?_) rfl (by kernel_rfl) (by kernel_rfl) (by kernel_rfl) (fun _ _ _ h => h) (Or.inl ⟨by rfl, ?_⟩) (by assumption) ?_
  rotate_left
  · intro w hSw
    go_simp
    try with_reducible rfl
  simp only [List.getElem_toArray, List.getElem_cons_succ, List.getElem_cons_zero, Act.put, List.setIfInBounds_toArray, List.set_cons_zero, List.set_cons_succ]
  refine wpAnyH_take (i := 8) (v := ?_) rfl (by kernel_rfl) (by kernel_rfl) (by kernel_rfl) (fun _ _ _ h => h) (Or.inl ⟨by rfl, ?_⟩) (by assumption) ?_
  rotate_left
  · intro w hSw
    go_simp
    try with_reducible rfl
  simp only [List.getElem_toArray, List.getElem_cons_succ, List.getElem_cons_zero, Act.put, List.setIfInBounds_toArray, List.set_cons_zero, List.set_cons_succ]
  refine wpAnyH_take (i := 9) (v := ?_) rfl (by kernel_rfl) (by kernel_rfl) (by kernel_rfl) (fun _ _ _ h => h) (Or.inl ⟨by rfl, ?_⟩) (by assumption) ?_
  rotate_left
  · intro w hSw
    go_simp
    try with_reducible rfl
  simp only [List.getElem_toArray, List.getElem_cons_succ, List.getElem_cons_zero, Act.put, List.setIfInBounds_toArray, List.set_cons_zero, List.set_cons_succ]
  refine wpAnyH_done (by kernel_rfl) ?_ _
  go_wp2_with fail
  go_ret
  exact ⟨by simp, HG2.out⟩
end Go.Proofs.YtlchlklbjocliaaDoor

/- A second guest's tables are made beside the first one's. -/
namespace Go.Proofs.YtlchlklbjocliaaDoor
open Go Go.RowKit
set_option linter.unusedSimpArgs false
set_option linter.unusedVariables false
set_option maxRecDepth 100000
theorem notin4 {x a b c d : Nat} (h1 : x ≠ a) (h2 : x ≠ b) (h3 : x ≠ c) (h4 : x ≠ d) : x ∉ [a, b, c, d] := by
  simp only [List.mem_cons, List.not_mem_nil, or_false, not_or]
  exact ⟨h1, h2, h3, h4⟩
/-- A guest's tables that were just made. -/
theorem one_new {w w' : World} {pm fp q N bt bw n first low tb bl g k : Nat} {B T O : Nat → Nat} {quo : Nat → Int} (hT : Widths w) (hP : Places w) (hnb : n ≤ 256) (hnN : n ≤ N / 256) (hg1 : 1 ≤ g) (hg2 : g ≤ 16) (hk : k < n) (hf : first ≤ k) (hno : ∀ f, f < n → 0 < T f → O f ≠ g)
    (hTb : TbAt w' tb pm fp bl (g : Int) k true (fun _ => 0)) (hI : IMap Tryd.prog 3 3 w' bl 0 (fun _ => none)) (htb : w.heap.size ≤ tb) (hbl : w.heap.size ≤ bl) (hne : tb ≠ bl) (hF : FrAt w' fp bt bw n first (upF T k 1) (upF O k 0) quo low) (hM : Mem w' pm q N (putB B (k * 256) (List.replicate 256 0))) (hc : Chg [fp, bt, bw, q] w w')
    (hlt : fp < w.heap.size ∧ bt < w.heap.size ∧ bw < w.heap.size ∧ q < w.heap.size ∧ pm < w.heap.size) (hap : pm ≠ fp ∧ pm ≠ bt ∧ pm ≠ bw ∧ q ≠ fp ∧ q ≠ bt ∧ q ≠ bw)
    (hw : (fp ≠ 1 ∧ bt ≠ 1 ∧ bw ≠ 1 ∧ q ≠ 1) ∧ (fp ≠ 0 ∧ bt ≠ 0 ∧ bw ≠ 0 ∧ q ≠ 0)) :
    One w' ⟨tb, pm, fp, bl, q, N, g, k, bt, bw, n, first⟩ (putB B (k * 256) (List.replicate 256 0)) (upF T k 1) (upF O k 0) (fun _ => 1) quo GS.empty := by
  have hTl := hT.1
  have hPl := hP.1
  have hT' := hT.chgS hc (notin4 hw.1.1.symm hw.1.2.1.symm hw.1.2.2.1.symm hw.1.2.2.2.symm)
  have hP' := hP.chgS hc (notin4 hw.2.1.symm hw.2.2.1.symm hw.2.2.2.1.symm hw.2.2.2.2.symm)
  refine ⟨⟨0, _, _, low, ⟨⟨hTb, hI, hM, hT', hP', (fun k' t' hh => by cases hh), ⟨?_, ?_, hw.1.2.2.2, hw.2.2.2.2⟩⟩, hF, hnN, hap, ?_, ?_, ?_⟩, GsAt.empty (by show k * 256 + 256 ≤ N; omega)⟩, FsAt.empty ⟨hg1, hg2⟩ ⟨hk, hf, upF_same _ _ _, upF_same _ _ _⟩ (fun f hf' hTf => ?_), hnb, fun f => ?_⟩
  · show q ≠ tb; omega
  · show q ≠ bl; omega
  · show tb ≠ fp ∧ tb ≠ bt ∧ tb ≠ bw ∧ tb ≠ pm ∧ tb ≠ bl; omega
  · show bl ≠ fp ∧ bl ≠ bt ∧ bl ≠ bw ∧ bl ≠ pm; omega
  · intro b hb
    have hb : b = fp ∨ b = bt ∨ b = bw ∨ b = tb ∨ b = bl := hb
    rcases hb with rfl | rfl | rfl | rfl | rfl
    · exact ⟨hw.1.1, hw.2.1⟩
    · exact ⟨hw.1.2.1, hw.2.2.1⟩
    · exact ⟨hw.1.2.2.1, hw.2.2.2.1⟩
    · constructor <;> omega
    · constructor <;> omega
  · show upF O k 0 f ≠ g
    by_cases e : f = k
    · rw [e, upF_same]; omega
    · rw [upF_ne _ _ e] at hTf ⊢; exact hno f hf' hTf
  · show (1 : Nat) ≤ 60000; decide
set_option maxHeartbeats 1000000 in
theorem snew_two {w : World} {I : Ids} {B T O : Nat → Nat} {quo : Nat → Int} {G : GS} (h : One w I B T O (fun _ => 1) quo G) {g : Nat} (hg1 : 1 ≤ g) (hg2 : g ≤ 16) (hgo : g ≠ I.o) (hno : ∀ f, f < I.n → 0 < T f → O f ≠ g) (hfr : ∃ i, i < I.n ∧ T i = 0) (hq0 : (ownC I.n T O 0 : Int) < quo 0) :
    Calls Tryd.prog 21 #[.pointer (some ⟨I.pm, 0, none⟩), .pointer (some ⟨I.fp, 0, none⟩), .int .i64 (g : Nat)] w fun r w' => ∃ tb bl k, r = .returned (.tuple #[.pointer (some ⟨tb, 0, none⟩), .int .i64 0]) ∧ k < I.n ∧ T k = 0 ∧ I.first ≤ k ∧ w.heap.size ≤ tb ∧ w.heap.size ≤ bl ∧ tb ≠ bl ∧
      One w' I (putB B (k * 256) (List.replicate 256 0)) (upF T k 1) (upF O k 0) (fun _ => 1) quo G ∧ One w' ⟨tb, I.pm, I.fp, bl, I.q, I.N, g, k, I.bt, I.bw, I.n, I.first⟩ (putB B (k * 256) (List.replicate 256 0)) (upF T k 1) (upF O k 0) (fun _ => 1) quo GS.empty ∧ Sep I.rt k G GS.empty ∧ TbAt w' tb I.pm I.fp bl (g : Int) k true (fun _ => 0) ∧ Chg [I.fp, I.bt, I.bw, I.q] w w' ∧ ∀ i, i < k → 0 < T i := by
  obtain ⟨s, c, L, low, g1, g2⟩ := h.ex
  have hr := h.fs.root
  have hnN := g1.hnN
  have lts := g1.lts
  have hpl := g1.st.mem.plt
  have n1 := g1.fr.n1
  have y1 := g1.apg I.fp (Or.inl rfl)
  have y2 := g1.apg I.bt (Or.inr (Or.inl rfl))
  have y3 := g1.apg I.bw (Or.inr (Or.inr (Or.inl rfl)))
  have y6 := g1.st.sep
  have y7 := g1.apt
  have y8 := g1.apl
  refine (snew_ok g1.st.mem g1.fr hnN (by omega) hq0 g1.apq (g := (g : Int)) (by omega) (by omega) hfr).mono ?_
  rintro _ w' ⟨tb, bl, k, rfl, hk, hTk, hTb, hI, htb, hbl, hne, hF, hM, hc⟩
  have hfk : I.first ≤ k := by
    have := hF.fl
    rcases Nat.lt_or_ge k I.first with h5 | h5
    · have := g1.fr.below k (by have := g1.fr.fl; omega); omega
    · exact h5
  have hkr : k ≠ I.rt := fun e => by rw [e] at hTk; omega
  have hklw : ∀ k', k' < 32 → G.lw k' ≠ some k := fun k' hk' hh => by have := h.fs.tab k' k hk' hh; omega
  refine ⟨tb, bl, k, rfl, hk, hTk, hfk, htb, hbl, hne, ?_, one_new g1.st.wid g1.st.pla h.nb hnN hg1 hg2 hk hfk hno hTb hI htb hbl hne hF hM hc ⟨lts.1, lts.2.1, lts.2.2.1, lts.2.2.2.1, hpl⟩ g1.apq ⟨⟨y1.1, y2.1, y3.1, y6.2.2.1⟩, ⟨y1.2, y2.2, y3.2, y6.2.2.2⟩⟩, ⟨fun e => hkr e.symm, hklw, (fun _ _ hh => by cases hh), (fun _ _ _ _ _ _ hh => by cases hh)⟩, hTb, hc, fun i hi => by
    have := hF.below i hi
    rw [upF_ne _ _ (by omega)] at this; exact this⟩
  refine h.foreign hF hM hc (notin4 y7.1 y7.2.1 y7.2.2.1 y6.1.symm) (notin4 y8.1 y8.2.1 y8.2.2.1 y6.2.1.symm) (notin4 y1.1.symm y2.1.symm y3.1.symm y6.2.2.1.symm) (notin4 y1.2.symm y2.2.symm y3.2.symm y6.2.2.2.symm) (fun i hi => ?_) (h.fs.foreign (fun f hf hh => ?_) (fun f hf hT' hO' => ?_)) h.eb
  · have : i / 256 ≠ k := fun e => by
      rcases hi with hi | ⟨k', hk', hi⟩
      · exact hkr (by omega)
      · exact hklw k' hk' (by rw [hi, e])
    exact putB_out _ _ _ (by rw [List.length_replicate]; omega)
  · have : f ≠ k := fun e => by
      rcases hh with hh | hh | ⟨k', hk', hh⟩
      · rw [e] at hh; omega
      · exact hkr (by omega)
      · exact hklw k' hk' (by rw [hh, e])
    rw [upF_ne _ _ this, upF_ne _ _ this]; exact ⟨rfl, rfl⟩
  · have : f ≠ k := fun e => by rw [e, upF_same] at hO'; have := h.fs.og; omega
    rw [upF_ne _ _ this] at hT' hO'; exact ⟨hT', hO'⟩
theorem psep_of {I J : Ids} {ba bv ja jv : Nat} (K Z : Nat) (kin : Kin I J) (si : BaSep ba bv I) (hold : I.fp < K ∧ I.bt < K ∧ I.bw < K ∧ I.q < K ∧ I.tb < K ∧ I.bl < K ∧ ba < K ∧ bv < K ∧ I.pm < K) (hnew : K ≤ J.tb ∧ K ≤ J.bl ∧ K ≤ ja ∧ K ≤ jv) (hw : 1 < Z ∧ 0 < Z)
    (hz : Z ≤ I.fp ∧ Z ≤ I.bt ∧ Z ≤ I.bw ∧ Z ≤ I.q ∧ Z ≤ I.tb ∧ Z ≤ I.bl ∧ Z ≤ ba ∧ Z ≤ bv) (hzk : Z ≤ K) (hd : (I.tb ≠ I.fp ∧ I.tb ≠ I.bt ∧ I.tb ≠ I.bw ∧ I.tb ≠ I.q) ∧ (I.bl ≠ I.fp ∧ I.bl ≠ I.bt ∧ I.bl ≠ I.bw ∧ I.bl ≠ I.q)) (hne : ja ≠ J.tb ∧ ja ≠ J.bl ∧ jv ≠ J.tb ∧ jv ≠ J.bl) : PSep I J ba bv ja jv := by
  have k1 := kin.fp
  have k2 := kin.bt
  have k3 := kin.bw
  have k4 := kin.q
  have k5 := kin.pm
  refine ⟨kin, si, ⟨by omega, by omega⟩, fun b hb => ?_, fun b hb => ?_⟩
  · clear si hd
    simp only [S8, List.mem_cons, List.not_mem_nil, or_false]
    rcases hb with rfl | rfl | rfl | rfl | rfl | rfl <;> omega
  · simp only [S8, List.mem_cons, List.not_mem_nil, or_false, k1, k2, k3, k4, not_or]
    obtain ⟨a1, a2, a3, a4, _⟩ := si.a
    obtain ⟨v1, v2, v3, v4, _⟩ := si.v
    obtain ⟨⟨d1, d2, d3, d4⟩, ⟨d5, d6, d7, d8⟩⟩ := hd
    rcases hb with rfl | rfl | rfl | rfl | rfl | rfl
    · exact ⟨d1, d2, d3, d4, by omega, by omega, by omega, by omega⟩
    · exact ⟨d5, d6, d7, d8, by omega, by omega, by omega, by omega⟩
    · exact ⟨a1, a2, a3, a4, by omega, by omega, by omega, by omega⟩
    · exact ⟨v1, v2, v3, v4, by omega, by omega, by omega, by omega⟩
    · clear a1 a2 a3 a4 v1 v2 v3 v4 d1 d2 d3 d4 d5 d6 d7 d8; omega
    · clear a1 a2 a3 a4 v1 v2 v3 v4 d1 d2 d3 d4 d5 d6 d7 d8; omega
end Go.Proofs.YtlchlklbjocliaaDoor

