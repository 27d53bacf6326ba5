/- A guest's tables, told by what stands in them: plain facts. -/
import Derived.Test.YtlchlklbjocliaaDoorBaF
namespace Go.Proofs.YtlchlklbjocliaaDoor
open Go Go.RowKit
set_option linter.unusedSimpArgs false
set_option linter.unusedVariables false
set_option maxRecDepth 100000
/-- A page: its frame and its rights. -/
structure Pg where
  fr : Nat
  r : Bool
  w : Bool
  x : Bool
/-- A guest's pages, and the frames of its lower tables. -/
structure GS where
  pg : Nat → Option Pg
  lw : Nat → Option Nat
def pval : Option Pg → Nat
  | some p => packN true p.r p.w p.x true false false p.fr
  | none => 0
def tval : Option Nat → Nat
  | some t => packN true false false false false false false t
  | none => 0
def GS.set (G : GS) (p : Nat) (v : Option Pg) : GS := ⟨fun i => if i = p then v else G.pg i, G.lw⟩
def GS.setLw (G : GS) (k : Nat) (v : Option Nat) : GS := ⟨G.pg, fun i => if i = k then v else G.lw i⟩
theorem GS.set_same (G : GS) (p : Nat) (v : Option Pg) : (G.set p v).pg p = v := by unfold GS.set; simp
theorem GS.set_ne (G : GS) {p i : Nat} (v : Option Pg) (h : i ≠ p) : (G.set p v).pg i = G.pg i := by unfold GS.set; simp [h]
theorem GS.setLw_same (G : GS) (k : Nat) (v : Option Nat) : (G.setLw k v).lw k = v := by unfold GS.setLw; simp
theorem GS.setLw_ne (G : GS) {k i : Nat} (v : Option Nat) (h : i ≠ k) : (G.setLw k v).lw i = G.lw i := by unfold GS.setLw; simp [h]
theorem GS.setLw_pg (G : GS) (k : Nat) (v : Option Nat) : (G.setLw k v).pg = G.pg := rfl
theorem GS.set_lw (G : GS) (p : Nat) (v : Option Pg) : (G.set p v).lw = G.lw := rfl
/-- How many pages a lower table has. -/
def cntP (G : GS) (k : Nat) : Nat := cn (fun i => (G.pg (32 * k + i)).isSome) 32
/-- How many lower tables there are. -/
def lwN (G : GS) : Nat := cn (fun k => (G.lw k).isSome) 32
theorem cn_zero {p : Nat → Bool} : ∀ {n : Nat}, cn p n = 0 → ∀ i, i < n → p i = false
  | 0, _, i, h => by omega
  | n + 1, h, i, hi => by
    unfold cn at h
    by_cases e : i = n
    · subst e
      cases hp : p i
      · rfl
      · rw [hp] at h; simp at h
    · exact cn_zero (Nat.eq_zero_of_add_eq_zero_right h) i (by omega)
theorem cn_pos {p : Nat → Bool} {i n : Nat} (hi : i < n) (h : p i = true) : 1 ≤ cn p n := by
  rcases Nat.eq_zero_or_pos (cn p n) with h0 | h0
  · have := cn_zero h0 i hi
    rw [h] at this; cases this
  · exact h0
theorem cntP_setLw (G : GS) (k : Nat) (v : Option Nat) : cntP (G.setLw k v) = cntP G := rfl
theorem cntP_add {G : GS} {p : Nat} {g : Pg} (h : G.pg p = none) : cntP (G.set p (some g)) (p / 32) = cntP G (p / 32) + 1 := by
  unfold cntP
  refine cn_add (i := p % 32) (by omega) (fun j hj hn => ?_) ?_ ?_
  · rw [GS.set_ne _ _ (by omega)]
  · rw [show 32 * (p / 32) + p % 32 = p by omega, h]; rfl
  · rw [show 32 * (p / 32) + p % 32 = p by omega, GS.set_same]; rfl
theorem cntP_del {G : GS} {p : Nat} {g : Pg} (h : G.pg p = some g) : cntP G (p / 32) = cntP (G.set p none) (p / 32) + 1 := by
  unfold cntP
  refine cn_add (i := p % 32) (by omega) (fun j hj hn => ?_) ?_ ?_
  · rw [GS.set_ne _ _ (by omega)]
  · rw [show 32 * (p / 32) + p % 32 = p by omega, GS.set_same]; rfl
  · rw [show 32 * (p / 32) + p % 32 = p by omega, h]; rfl
theorem cntP_other {G : GS} {p k : Nat} (v : Option Pg) (h : k ≠ p / 32) : cntP (G.set p v) k = cntP G k := by
  unfold cntP
  refine cn_congr fun i hi => ?_
  rw [GS.set_ne _ _ (by omega)]
theorem cntP_keep {G : GS} {p : Nat} {g g' : Pg} (h : G.pg p = some g) (k : Nat) : cntP (G.set p (some g')) k = cntP G k := by
  unfold cntP
  refine cn_congr fun i hi => ?_
  by_cases e : 32 * k + i = p
  · rw [e, GS.set_same, h]; rfl
  · rw [GS.set_ne _ _ e]
theorem cntP_none {G : GS} {p : Nat} (h : cntP G (p / 32) = 0) : G.pg p = none := by
  have := cn_zero h (p % 32) (by omega)
  rw [show 32 * (p / 32) + p % 32 = p by omega] at this
  cases hp : G.pg p
  · rfl
  · rw [hp] at this; cases this
theorem cntP_le (G : GS) (k : Nat) : cntP G k ≤ 32 := cn_le
theorem lwN_le (G : GS) : lwN G ≤ 32 := cn_le
theorem lwN_add {G : GS} {k t : Nat} (hk : k < 32) (h : G.lw k = none) : lwN (G.setLw k (some t)) = lwN G + 1 := by
  unfold lwN
  refine cn_add hk (fun j hj hn => ?_) ?_ ?_
  · rw [GS.setLw_ne _ _ hn]
  · rw [h]; rfl
  · rw [GS.setLw_same]; rfl
theorem lwN_del {G : GS} {k t : Nat} (hk : k < 32) (h : G.lw k = some t) : lwN G = lwN (G.setLw k none) + 1 := by
  unfold lwN
  refine cn_add hk (fun j hj hn => ?_) ?_ ?_
  · rw [GS.setLw_ne _ _ hn]
  · rw [GS.setLw_same]; rfl
  · rw [h]; rfl
def okPg (g : Pg) : Prop := rightR g.r g.w g.x = true ∧ g.fr < 256
/-- The tables in the memory, the map of the lower tables and the counts are what G says. -/
structure GsAt (N : Nat) (B : Nat → Nat) (rt : Nat) (L : Int → Option Int) (c : Nat → Int) (s : Nat) (G : GS) : Prop where
  low : ∀ k, k < 32 → L ((k : Nat) : Int) = (G.lw k).map (fun t => (t : Int))
  lowN : ∀ x : Int, ¬ (0 ≤ x ∧ x < 32) → L x = none
  pages : ∀ p, p < 1024 → rdP N B L p = pval (G.pg p)
  root : ∀ k, k < 32 → gv N B (rt * 256 + 8 * k) = tval (G.lw k)
  cnt : ∀ k, k < 32 → c k = (cntP G k : Nat)
  som : ∀ k, k < 32 → (G.lw k = none ↔ cntP G k = 0)
  ok : ∀ p g, p < 1024 → G.pg p = some g → okPg g
  tin : ∀ k t, k < 32 → G.lw k = some t → t * 256 + 256 ≤ N ∧ t < 256 ∧ t ≠ rt
  inj : ∀ k k' t, k < 32 → k' < 32 → G.lw k = some t → G.lw k' = some t → k = k'
  rin : rt * 256 + 256 ≤ N
  sz : s = lwN G
theorem GsAt.nonneg {N : Nat} {B : Nat → Nat} {rt : Nat} {L : Int → Option Int} {c : Nat → Int} {s : Nat} {G : GS} (h : GsAt N B rt L c s G) : ∀ k t, L k = some t → 0 ≤ t := by
  intro k t hk
  by_cases h0 : 0 ≤ k ∧ k < 32
  · obtain ⟨k, rfl⟩ := Int.eq_ofNat_of_zero_le h0.1
    have h1 := h.low k (by have := h0.2; omega)
    rw [h1] at hk
    cases hg : G.lw k with
    | none => rw [hg] at hk; cases hk
    | some u => rw [hg] at hk; simp at hk; omega
  · rw [h.lowN k h0] at hk; cases hk
theorem GsAt.L_some {N : Nat} {B : Nat → Nat} {rt : Nat} {L : Int → Option Int} {c : Nat → Int} {s : Nat} {G : GS} (h : GsAt N B rt L c s G) {k t : Nat} (hk : k < 32) (hl : G.lw k = some t) : L ((k : Nat) : Int) = some (t : Int) := by
  rw [h.low k hk, hl]; rfl
theorem GsAt.L_none {N : Nat} {B : Nat → Nat} {rt : Nat} {L : Int → Option Int} {c : Nat → Int} {s : Nat} {G : GS} (h : GsAt N B rt L c s G) {k : Nat} (hk : k < 32) (hl : G.lw k = none) : L ((k : Nat) : Int) = none := by
  rw [h.low k hk, hl]; rfl
theorem GsAt.lw_of {N : Nat} {B : Nat → Nat} {rt : Nat} {L : Int → Option Int} {c : Nat → Int} {s : Nat} {G : GS} (h : GsAt N B rt L c s G) {k t : Nat} (hk : k < 32) (hl : L ((k : Nat) : Int) = some (t : Int)) : G.lw k = some t := by
  rw [h.low k hk] at hl
  cases hg : G.lw k with
  | none => rw [hg] at hl; cases hl
  | some u => rw [hg] at hl; simp at hl; congr 1; omega
theorem pval_lt : ∀ v, pval v < 18446744073709551616
  | some p => packN_lt _ _ _ _ _ _ _ _
  | none => by unfold pval; decide
theorem tval_lt : ∀ v, tval v < 18446744073709551616
  | some p => packN_lt _ _ _ _ _ _ _ _
  | none => by unfold tval; decide
theorem pval_none : packN false false false false false false false 0 = pval none := none_tells.1
theorem tval_none : packN false false false false false false false 0 = tval none := none_tells.1
theorem GsAt.tells_some {N : Nat} {B : Nat → Nat} {rt : Nat} {L : Int → Option Int} {c : Nat → Int} {s : Nat} {G : GS} (h : GsAt N B rt L c s G) {p : Nat} {g : Pg} (hp : p < 1024) (hg : G.pg p = some g) :
    gok (rdP N B L p) = true ∧ ef (rdP N B L p) = g.fr ∧ eb (rdP N B L p) 1 = g.r ∧ eb (rdP N B L p) 2 = g.w ∧ eb (rdP N B L p) 3 = g.x := by
  rw [h.pages p hp, hg]
  obtain ⟨h1, h2⟩ := h.ok p g hp hg
  exact leaf_tells h2 g.r g.w g.x h1
theorem GsAt.tells_none {N : Nat} {B : Nat → Nat} {rt : Nat} {L : Int → Option Int} {c : Nat → Int} {s : Nat} {G : GS} (h : GsAt N B rt L c s G) {p : Nat} (hp : p < 1024) (hg : G.pg p = none) :
    gok (rdP N B L p) = false := by
  rw [h.pages p hp, hg]
  exact gok0
theorem GsAt.lw_some {N : Nat} {B : Nat → Nat} {rt : Nat} {L : Int → Option Int} {c : Nat → Int} {s : Nat} {G : GS} (h : GsAt N B rt L c s G) {p : Nat} {g : Pg} (hp : p < 1024) (hg : G.pg p = some g) : ∃ t, G.lw (p / 32) = some t := by
  cases hl : G.lw (p / 32) with
  | some t => exact ⟨t, rfl⟩
  | none =>
    have h0 := (h.som (p / 32) (by omega)).mp hl
    have := cntP_none h0
    rw [hg] at this; cases this
/-- Bytes of no table of its own were written. -/
theorem GsAt.foreign {N : Nat} {B C : Nat → Nat} {rt : Nat} {L : Int → Option Int} {c : Nat → Int} {s : Nat} {G : GS} (h : GsAt N B rt L c s G) (hC : ∀ i, (i / 256 = rt ∨ ∃ k, k < 32 ∧ G.lw k = some (i / 256)) → C i = B i) : GsAt N C rt L c s G := by
  have hgv : ∀ f a, (f = rt ∨ ∃ k, k < 32 ∧ G.lw k = some f) → a + 8 ≤ 256 → gv N C (f * 256 + a) = gv N B (f * 256 + a) := fun f a hf ha => by
    unfold gv
    rw [segB_congr (fun i hi => hC _ (by rw [show (f * 256 + a + i) / 256 = f by omega]; exact hf))]
  refine ⟨h.low, h.lowN, fun p hp => ?_, fun k hk => ?_, h.cnt, h.som, h.ok, h.tin, h.inj, h.rin, h.sz⟩
  · rw [← h.pages p hp]
    unfold rdP
    cases hl : G.lw (p / 32) with
    | none => rw [h.L_none (by omega) hl]
    | some t =>
      rw [h.L_some (by omega) hl]
      exact hgv t _ (Or.inr ⟨p / 32, by omega, hl⟩) (by omega)
  · rw [← h.root k hk]
    exact hgv rt _ (Or.inl rfl) (by omega)
theorem upC_same (c : Nat → Int) (k : Nat) (v : Int) : upC c k v k = v := by unfold upC; rw [if_pos rfl]
theorem upC_ne (c : Nat → Int) {k i : Nat} (v : Int) (h : i ≠ k) : upC c k v i = c i := by unfold upC; rw [if_neg h]
/-- A page's entry is written, its table stays. -/
theorem GsAt.put {N : Nat} {B : Nat → Nat} {rt : Nat} {L : Int → Option Int} {c : Nat → Int} {s : Nat} {G : GS} (h : GsAt N B rt L c s G) {p t : Nat} (hp : p < 1024) (hl : G.lw (p / 32) = some t) (v : Option Pg) (hv : ∀ g, v = some g → okPg g) (hc : cntP (G.set p v) (p / 32) ≠ 0) :
    GsAt N (putB B (t * 256 + 8 * (p % 32)) (leB (pval v) 8)) rt L (upC c (p / 32) (cntP (G.set p v) (p / 32) : Nat)) s (G.set p v) := by
  have hk : p / 32 < 32 := by omega
  obtain ⟨t1, t2, t3⟩ := h.tin _ _ hk hl
  refine ⟨h.low, h.lowN, fun p' hp' => ?_, fun k hk' => ?_, fun k hk' => ?_, fun k hk' => ?_, fun p' g hp' hg => ?_, h.tin, h.inj, h.rin, h.sz⟩
  · by_cases e : p' = p
    · subst e
      rw [GS.set_same]
      exact rdP_same (h.L_some hk hl) t1 (pval_lt v)
    · rw [GS.set_ne _ _ e, ← h.pages p' hp']
      refine rdP_apart (fun t' ht' => ?_) h.nonneg
      rw [leB_length]
      have hl' := h.lw_of (by omega) ht'
      by_cases e2 : t' = t
      · subst e2
        exact page_apart (h.inj _ _ _ (by omega) hk hl' hl) e
      · omega
  · rw [GS.set_lw, ← h.root k hk']
    exact gv_other (by rw [leB_length]; omega)
  · by_cases e : k = p / 32
    · subst e; rw [upC_same]
    · rw [upC_ne _ _ e, cntP_other _ e]; exact h.cnt k hk'
  · by_cases e : k = p / 32
    · subst e
      rw [GS.set_lw, hl]
      exact Iff.intro (fun hh => by cases hh) (fun hh => absurd hh hc)
    · rw [cntP_other _ e]; exact h.som k hk'
  · by_cases e : p' = p
    · subst e; rw [GS.set_same] at hg; exact hv g hg
    · rw [GS.set_ne _ _ e] at hg; exact h.ok p' g hp' hg
theorem upC_self {c : Nat → Int} {k : Nat} {v : Int} (h : c k = v) : upC c k v = c := by
  funext i; unfold upC; split
  · rename_i hi; rw [hi, h]
  · rfl
theorem zeros_getD (m i : Nat) : (List.replicate m 0).getD i 0 = 0 := by
  rw [List.getD_eq_getElem?_getD, List.getElem?_replicate]
  split <;> rfl
theorem zero_at (B : Nat → Nat) (f : Nat) {i : Nat} (hi : i < 256) : putB B (f * 256) (List.replicate 256 0) (f * 256 + i) = 0 := by
  rw [putB_in _ _ _ (by rw [List.length_replicate]; exact hi)]
  exact zeros_getD 256 i
theorem gv_zero {N : Nat} {B : Nat → Nat} {f a : Nat} (ha : a + 8 ≤ 256) : gv N (putB B (f * 256) (List.replicate 256 0)) (f * 256 + a) = 0 := by
  unfold gv
  have h1 : segB (putB B (f * 256) (List.replicate 256 0)) (f * 256 + a) 8 = segB (fun _ => 0) 0 8 :=
    List.map_congr_left fun i hi => by
      have hi' : i < 8 := by simpa using hi
      rw [show f * 256 + a + i = f * 256 + (a + i) by omega]
      exact zero_at B f (by omega)
  rw [h1]
  split
  · decide
  · rfl
/-- A page's entry is written into a table that is new. -/
theorem GsAt.putNew {N : Nat} {B : Nat → Nat} {rt : Nat} {L : Int → Option Int} {c : Nat → Int} {s : Nat} {G : GS} (h : GsAt N B rt L c s G) {p t : Nat} (hp : p < 1024) (hl : G.lw (p / 32) = none) {g : Pg} (hv : okPg g) (ht : t * 256 + 256 ≤ N) (ht2 : t < 256) (htr : t ≠ rt) (htn : ∀ k, k < 32 → G.lw k ≠ some t) :
    GsAt N (putB (putB (putB B (t * 256) (List.replicate 256 0)) (rt * 256 + 8 * (p / 32)) (leB (tval (some t)) 8)) (t * 256 + 8 * (p % 32)) (leB (pval (some g)) 8)) rt (imUpd L ((p / 32 : Nat) : Int) t) (upC c (p / 32) (c (p / 32) + 1)) (s + 1) ((G.set p (some g)).setLw (p / 32) (some t)) := by
  have hk : p / 32 < 32 := by omega
  have h0 := (h.som _ hk).mp hl
  have hpn := cntP_none h0
  have hck := h.cnt _ hk
  have hrin := h.rin
  refine ⟨fun k hk' => ?_, fun x hx => ?_, fun p' hp' => ?_, fun k hk' => ?_, fun k hk' => ?_, fun k hk' => ?_, fun p' g' hp' hg => ?_, fun k t' hk' hh => ?_, fun k k' t' hk1 hk2 h1 h2 => ?_, h.rin, ?_⟩
  · unfold imUpd
    by_cases e : k = p / 32
    · subst e; rw [if_pos rfl, GS.setLw_same]; rfl
    · rw [if_neg (by omega), GS.setLw_ne _ _ e]; exact h.low k hk'
  · unfold imUpd
    rw [if_neg (by omega)]; exact h.lowN x hx
  · rw [GS.setLw_pg]
    by_cases e : p' / 32 = p / 32
    · rw [← e, rdP_new]
      by_cases e2 : p' = p
      · subst e2
        rw [GS.set_same]
        exact gv_same (by omega) (by omega) (pval_lt _)
      · rw [GS.set_ne _ _ e2, gv_other (by rw [leB_length]; omega), gv_other (by rw [leB_length]; omega), gv_zero (by omega)]
        rw [cntP_none (G := G) (p := p') (by rw [e]; exact h0)]; rfl
    · rw [GS.set_ne _ _ (fun e2 => e (by rw [e2])), ← h.pages p' hp']
      have hrd : rdP N (putB (putB (putB B (t * 256) (List.replicate 256 0)) (rt * 256 + 8 * (p / 32)) (leB (tval (some t)) 8)) (t * 256 + 8 * (p % 32)) (leB (pval (some g)) 8)) (imUpd L ((p / 32 : Nat) : Int) t) p' = rdP N (putB (putB (putB B (t * 256) (List.replicate 256 0)) (rt * 256 + 8 * (p / 32)) (leB (tval (some t)) 8)) (t * 256 + 8 * (p % 32)) (leB (pval (some g)) 8)) L p' := by
        unfold rdP imUpd
        rw [if_neg (by omega)]
      rw [hrd]
      have hne : ∀ t' : Nat, L ((p' / 32 : Nat) : Int) = some (t' : Int) → t' ≠ t ∧ t' ≠ rt := fun t' ht' => by
        have hl' := h.lw_of (by omega) ht'
        exact ⟨fun e3 => htn (p' / 32) (by omega) (by rw [← e3]; exact hl'), (h.tin _ _ (by omega) hl').2.2⟩
      rw [rdP_apart (fun t' ht' => by rw [leB_length]; have := hne t' ht'; omega) h.nonneg, rdP_apart (fun t' ht' => by rw [leB_length]; have := hne t' ht'; omega) h.nonneg, rdP_apart (fun t' ht' => by rw [List.length_replicate]; have := hne t' ht'; omega) h.nonneg]
  · by_cases e : k = p / 32
    · subst e
      rw [GS.setLw_same, gv_other (by rw [leB_length]; omega)]
      exact gv_same (by omega) (by omega) (tval_lt _)
    · rw [GS.setLw_ne _ _ e, GS.set_lw, gv_other (by rw [leB_length]; omega), gv_other (by rw [leB_length]; omega), gv_other (by rw [List.length_replicate]; omega)]
      exact h.root k hk'
  · rw [cntP_setLw]
    by_cases e : k = p / 32
    · subst e; rw [upC_same, cntP_add hpn, hck]; omega
    · rw [upC_ne _ _ e, cntP_other _ e]; exact h.cnt k hk'
  · rw [cntP_setLw]
    by_cases e : k = p / 32
    · subst e
      rw [GS.setLw_same, cntP_add hpn]
      exact Iff.intro (fun hh => by cases hh) (fun hh => by omega)
    · rw [GS.setLw_ne _ _ e, cntP_other _ e]; exact h.som k hk'
  · rw [GS.setLw_pg] at hg
    by_cases e : p' = p
    · subst e; rw [GS.set_same] at hg; injection hg with hg; subst hg; exact hv
    · rw [GS.set_ne _ _ e] at hg; exact h.ok p' g' hp' hg
  · by_cases e : k = p / 32
    · subst e; rw [GS.setLw_same] at hh; injection hh with hh; subst hh; exact ⟨ht, ht2, htr⟩
    · rw [GS.setLw_ne _ _ e] at hh; exact h.tin k t' hk' hh
  · by_cases e1 : k = p / 32
    · by_cases e2 : k' = p / 32
      · omega
      · rw [e1, GS.setLw_same] at h1
        rw [GS.setLw_ne _ _ e2] at h2
        injection h1 with h1
        subst h1
        exact absurd h2 (htn k' hk2)
    · by_cases e2 : k' = p / 32
      · rw [e2, GS.setLw_same] at h2
        rw [GS.setLw_ne _ _ e1] at h1
        injection h2 with h2
        subst h2
        exact absurd h1 (htn k hk1)
      · rw [GS.setLw_ne _ _ e1] at h1
        rw [GS.setLw_ne _ _ e2] at h2
        exact h.inj k k' t' hk1 hk2 h1 h2
  · rw [lwN_add hk (by rw [GS.set_lw]; exact hl), h.sz]; rfl
/-- A table's last page is taken away, and the table with it. -/
theorem GsAt.dropLast {N : Nat} {B : Nat → Nat} {rt : Nat} {L : Int → Option Int} {c : Nat → Int} {s : Nat} {G : GS} (h : GsAt N B rt L c s G) {p t : Nat} (hp : p < 1024) (hl : G.lw (p / 32) = some t) {g : Pg} (hg : G.pg p = some g) (hc : cntP G (p / 32) = 1) :
    GsAt N (putB (putB B (t * 256 + 8 * (p % 32)) (leB (pval none) 8)) (rt * 256 + 8 * (p / 32)) (leB (tval none) 8)) rt (imDel L ((p / 32 : Nat) : Int)) (upC c (p / 32) (c (p / 32) - 1)) (s - 1) ((G.set p none).setLw (p / 32) none) := by
  have hk : p / 32 < 32 := by omega
  obtain ⟨t1, t2, t3⟩ := h.tin _ _ hk hl
  have hck := h.cnt _ hk
  have hrin := h.rin
  have hd := cntP_del hg
  have h0 : cntP (G.set p none) (p / 32) = 0 := by omega
  refine ⟨fun k hk' => ?_, fun x hx => ?_, fun p' hp' => ?_, fun k hk' => ?_, fun k hk' => ?_, fun k hk' => ?_, fun p' g' hp' hg => ?_, fun k t' hk' hh => ?_, fun k k' t' hk1 hk2 h1 h2 => ?_, h.rin, ?_⟩
  · unfold imDel
    by_cases e : k = p / 32
    · subst e; rw [if_pos rfl, GS.setLw_same]; rfl
    · rw [if_neg (by omega), GS.setLw_ne _ _ e]; exact h.low k hk'
  · unfold imDel
    split
    · rfl
    · exact h.lowN x hx
  · rw [GS.setLw_pg]
    by_cases e : p' / 32 = p / 32
    · rw [cntP_none (G := G.set p none) (p := p') (by rw [e]; exact h0)]
      unfold rdP imDel
      rw [← e, if_pos rfl]; rfl
    · rw [GS.set_ne _ _ (fun e2 => e (by rw [e2])), ← h.pages p' hp']
      have hrd : rdP N (putB (putB B (t * 256 + 8 * (p % 32)) (leB (pval none) 8)) (rt * 256 + 8 * (p / 32)) (leB (tval none) 8)) (imDel L ((p / 32 : Nat) : Int)) p' = rdP N (putB (putB B (t * 256 + 8 * (p % 32)) (leB (pval none) 8)) (rt * 256 + 8 * (p / 32)) (leB (tval none) 8)) L p' := by
        unfold rdP imDel
        rw [if_neg (by omega)]
      rw [hrd]
      have hne : ∀ t' : Nat, L ((p' / 32 : Nat) : Int) = some (t' : Int) → t' ≠ t ∧ t' ≠ rt := fun t' ht' => by
        have hl' := h.lw_of (by omega) ht'
        exact ⟨fun e3 => e (h.inj _ _ _ (by omega) hk (by rw [← e3]; exact hl') hl), (h.tin _ _ (by omega) hl').2.2⟩
      rw [rdP_apart (fun t' ht' => by rw [leB_length]; have := hne t' ht'; omega) h.nonneg, rdP_apart (fun t' ht' => by rw [leB_length]; have := hne t' ht'; omega) h.nonneg]
  · by_cases e : k = p / 32
    · subst e
      rw [GS.setLw_same]
      exact gv_same (by omega) (by omega) (tval_lt _)
    · rw [GS.setLw_ne _ _ e, GS.set_lw, gv_other (by rw [leB_length]; omega), gv_other (by rw [leB_length]; omega)]
      exact h.root k hk'
  · rw [cntP_setLw]
    by_cases e : k = p / 32
    · subst e; rw [upC_same, h0, hck, hc]; rfl
    · rw [upC_ne _ _ e, cntP_other _ e]; exact h.cnt k hk'
  · rw [cntP_setLw]
    by_cases e : k = p / 32
    · subst e
      rw [GS.setLw_same, h0]
      exact ⟨fun _ => rfl, fun _ => rfl⟩
    · rw [GS.setLw_ne _ _ e, cntP_other _ e]; exact h.som k hk'
  · rw [GS.setLw_pg] at hg
    by_cases e : p' = p
    · subst e; rw [GS.set_same] at hg; cases hg
    · rw [GS.set_ne _ _ e] at hg; exact h.ok p' g' hp' hg
  · by_cases e : k = p / 32
    · subst e; rw [GS.setLw_same] at hh; cases hh
    · rw [GS.setLw_ne _ _ e] at hh; exact h.tin k t' hk' hh
  · by_cases e1 : k = p / 32
    · rw [e1, GS.setLw_same] at h1; cases h1
    · by_cases e2 : k' = p / 32
      · rw [e2, GS.setLw_same] at h2; cases h2
      · rw [GS.setLw_ne _ _ e1] at h1
        rw [GS.setLw_ne _ _ e2] at h2
        exact h.inj k k' t' hk1 hk2 h1 h2
  · have := lwN_del (G := G.set p none) hk (by rw [GS.set_lw]; exact hl)
    have e : lwN (G.set p none) = lwN G := rfl
    rw [h.sz]; omega
/-- No page, no table. -/
def GS.empty : GS := ⟨fun _ => none, fun _ => none⟩
theorem GsAt.empty {N rt : Nat} {B : Nat → Nat} (hr : rt * 256 + 256 ≤ N) : GsAt N (putB B (rt * 256) (List.replicate 256 0)) rt (fun _ => none) (fun _ => 0) 0 GS.empty := by
  have h0 : ∀ k, cntP GS.empty k = 0 := fun k => cn_none fun i _ => rfl
  exact ⟨fun _ _ => rfl, fun _ _ => rfl, fun _ _ => rfl, fun k hk => gv_zero (by omega), fun k _ => (by rw [h0]; rfl), fun k _ => ⟨fun _ => h0 k, fun _ => rfl⟩, fun _ _ _ hh => (by cases hh), fun _ _ _ hh => (by cases hh), fun _ _ _ _ _ hh => (by cases hh), hr, (cn_none fun i _ => rfl).symm⟩
end Go.Proofs.YtlchlklbjocliaaDoor
