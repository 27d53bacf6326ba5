/- One guest's tables with all that stands: Unmap, Map, Look, Protect told by pages. -/
import Derived.Test.YtlchlklbjocliaaDoorGf
namespace Go.Proofs.YtlchlklbjocliaaDoor
open Go Go.RowKit
set_option linter.unusedSimpArgs false
set_option linter.unusedVariables false
set_option maxRecDepth 100000
structure Ids where
  tb : Nat
  pm : Nat
  fp : Nat
  bl : Nat
  q : Nat
  N : Nat
  o : Nat
  rt : Nat
  bt : Nat
  bw : Nat
  n : Nat
  first : Nat
structure One (w : World) (I : Ids) (B T O E : Nat → Nat) (quo : Nat → Int) (G : GS) : Prop where
  ex : ∃ s c L low, GuAt w I.tb I.pm I.fp I.bl s I.q I.N I.o (I.rt : Int) c L B I.bt I.bw I.n I.first T O quo low ∧ GsAt I.N B I.rt L c s G
  fs : FsAt I.n I.first I.o I.rt T O E G
  nb : I.n ≤ 256
  eb : ∀ f, E f ≤ 60000
theorem One.grows {w w' : World} {I : Ids} {B T O E : Nat → Nat} {quo : Nat → Int} {G : GS} (h : One w I B T O E quo G) (hg : Grows w w') : One w' I B T O E quo G := by
  obtain ⟨s, c, L, low, h1, h2⟩ := h.ex
  exact ⟨⟨s, c, L, low, h1.grows hg, h2⟩, h.fs, h.nb, h.eb⟩
theorem One.fr {w : World} {I : Ids} {B T O E : Nat → Nat} {quo : Nat → Int} {G : GS} (h : One w I B T O E quo G) : ∃ low, FrAt w I.fp I.bt I.bw I.n I.first T O quo low := by
  obtain ⟨s, c, L, low, h1, h2⟩ := h.ex
  exact ⟨low, h1.fr⟩
theorem One.mem {w : World} {I : Ids} {B T O E : Nat → Nat} {quo : Nat → Int} {G : GS} (h : One w I B T O E quo G) : Mem w I.pm I.q I.N B := by
  obtain ⟨s, c, L, low, h1, h2⟩ := h.ex
  exact h1.st.mem
theorem One.nN {w : World} {I : Ids} {B T O E : Nat → Nat} {quo : Nat → Int} {G : GS} (h : One w I B T O E quo G) : I.n * 256 ≤ I.N := by
  obtain ⟨s, c, L, low, h1, h2⟩ := h.ex
  have := h1.hnN
  omega
/-- What is no table of the guest's, and was somebody's, keeps its bytes. -/
def Kept (T : Nat → Nat) (rt : Nat) (G : GS) (B B' : Nat → Nat) : Prop := ∀ i, 0 < T (i / 256) → i / 256 ≠ rt → (∀ k, k < 32 → G.lw k ≠ some (i / 256)) → B' i = B i
theorem Kept.refl (T : Nat → Nat) (rt : Nat) (G : GS) (B : Nat → Nat) : Kept T rt G B B := fun _ _ _ _ => rfl
/-- Others' frames and bytes were changed. -/
theorem One.foreign {w w' : World} {I : Ids} {B C T O T' O' E E' : Nat → Nat} {quo quo' : Nat → Int} {G : GS} {S : List Nat} {low' : Nat} (h : One w I B T O E quo G) (hF : FrAt w' I.fp I.bt I.bw I.n I.first T' O' quo' low') (hM : Mem w' I.pm I.q I.N C) (hc : Chg S w w') (h1 : I.tb ∉ S) (h2 : I.bl ∉ S) (h3 : 1 ∉ S) (h4 : 0 ∉ S)
    (hC : ∀ i, (i / 256 = I.rt ∨ ∃ k, k < 32 ∧ G.lw k = some (i / 256)) → C i = B i) (hfs : FsAt I.n I.first I.o I.rt T' O' E' G) (heb : ∀ f, E' f ≤ 60000) : One w' I C T' O' E' quo' G := by
  obtain ⟨s, c, L, low, g1, g2⟩ := h.ex
  exact ⟨⟨s, c, L, low', ⟨⟨g1.st.tab.chg hc h1, g1.st.map.of_block (hc.get g1.st.map.lt h2), hM, g1.st.wid.chgS hc h3, g1.st.pla.chgS hc h4, g1.st.low, g1.st.sep⟩, hF, g1.hnN, g1.apq, g1.apt, g1.apl, g1.apg⟩, g2.foreign hC⟩, hfs, h.nb, heb⟩
/-- What becomes of a page that is taken away. -/
def UnR (G : GS) (page : Nat) (g : Pg) (T T' : Nat → Nat) (G' : GS) : Prop :=
  ∃ t, G.lw (page / 32) = some t ∧ T t = 1 ∧ g.fr ≠ t ∧ ((2 ≤ cntP G (page / 32) ∧ T' = upF T g.fr (T g.fr - 1) ∧ G' = G.set page none) ∨
  (cntP G (page / 32) = 1 ∧ T' = upF (upF T g.fr (T g.fr - 1)) t 0 ∧ G' = (G.set page none).setLw (page / 32) none))
theorem unmap_no {w : World} {I : Ids} {B T O E : Nat → Nat} {quo : Nat → Int} {G : GS} (h : One w I B T O E quo G) {page : Nat} (hp : page < 1024) (hg : G.pg page = none) :
    Calls Tryd.prog 12 #[.pointer (some ⟨I.tb, 0, none⟩), .int .i64 page] w fun e w' => e = .returned (.tuple #[.int .i64 0, .int .i64 14]) ∧ Grows w w' := by
  obtain ⟨s, c, L, low, g1, g2⟩ := h.ex
  exact Unmap_none g1 hp (g2.tells_none hp hg)
theorem unmap_one {w : World} {I : Ids} {B T O E : Nat → Nat} {quo : Nat → Int} {G : GS} (h : One w I B T O E quo G) {page : Nat} (hp : page < 1024) {g : Pg} (hg : G.pg page = some g) :
    Calls Tryd.prog 12 #[.pointer (some ⟨I.tb, 0, none⟩), .int .i64 page] w fun e w' => e = .returned (.tuple #[.int .i64 g.fr, .int .i64 0]) ∧ (∃ B' T' G', One w' I B' T' O E quo G' ∧ Kept T I.rt G B B' ∧ UnR G page g T T' G') ∧ Chg [I.fp, I.bt, I.bw, I.q, I.tb, I.bl] w w' := by
  obtain ⟨s, c, L, low, g1, g2⟩ := h.ex
  obtain ⟨t, hl⟩ := g2.lw_some hp hg
  have hk : page / 32 < 32 := by omega
  obtain ⟨e1, e2, e3, e4, e5⟩ := g2.tells_some hp hg
  obtain ⟨t1, t2, t3⟩ := g2.tin _ _ hk hl
  obtain ⟨j1, j2, j3⟩ := h.fs.pgs page g hp hg
  obtain ⟨m1, m2, m3⟩ := h.fs.own g.fr j1 j2 j3
  obtain ⟨b1, b2, b3, b4⟩ := h.fs.tab _ _ hk hl
  obtain ⟨r1, r2, r3, r4⟩ := h.fs.root
  have hL := g2.L_some hk hl
  have hck := g2.cnt _ hk
  have hcl := cntP_le G (page / 32)
  have hcd := cntP_del hg
  have hdel := h.fs.unmapped hp hg
  have hne : g.fr ≠ t := fun e => by rw [e, b4] at j3; have := h.fs.og; omega
  by_cases hc2 : 2 ≤ cntP G (page / 32)
  · have hU := Unmap_more g1 hp e1 hL t1 (by rw [e2]; exact j1) (by rw [e2]; omega) (by rw [e2]; exact j3) (by rw [e2]; exact m1) (by rw [hck]; omega)
    rw [e2] at hU
    refine hU.mono ?_
    rintro _ w' ⟨rfl, hG, hC⟩
    have hput := g2.put hp hl none (fun _ hh => by cases hh) (by omega)
    rw [show ((cntP (G.set page none) (page / 32) : Nat) : Int) = c (page / 32) - 1 by rw [hck]; omega] at hput
    refine ⟨rfl, ⟨_, _, _, ⟨⟨s, _, L, _, hG, by rw [pval_none]; exact hput⟩, hdel.1, h.nb, h.eb⟩, ?_, t, hl, b3, hne, Or.inl ⟨hc2, rfl, rfl⟩⟩, hC⟩
    intro i hT hr hk'
    have : i / 256 ≠ t := fun e => hk' _ hk (by rw [e]; exact hl)
    exact putB_out _ _ _ (by rw [leB_length]; omega)
  · have hc1 : cntP G (page / 32) = 1 := by omega
    have hU := Unmap_last g1 hp e1 hL t1 (by rw [e2]; exact j1) (by rw [e2]; omega) (by rw [e2]; exact j3) (by rw [e2]; exact m1) (by rw [hck, hc1]; rfl) g2.rin b1 b3 b4 b2
    rw [e2] at hU
    refine hU.mono ?_
    rintro _ w' ⟨rfl, hG, hC⟩
    have hput := g2.dropLast hp hl hg hc1
    refine ⟨rfl, ⟨_, _, _, ⟨⟨_, _, _, _, hG, by rw [pval_none]; exact hput⟩, hdel.1.untabled (k := page / 32) (t := t) hk hl t3 (fun k' hk' hh => g2.inj _ _ _ hk' hk hh hl), h.nb, h.eb⟩, ?_, t, hl, b3, hne, Or.inr ⟨hc1, rfl, rfl⟩⟩, hC⟩
    intro i hT hr hk'
    have : i / 256 ≠ t := fun e => hk' _ hk (by rw [e]; exact hl)
    rw [putB_out _ _ _ (by rw [leB_length]; omega)]
    exact putB_out _ _ _ (by rw [leB_length]; omega)
/-- What becomes of a page that is mapped to the guest's frame j. -/
def MapR (n first page j : Nat) (g : Pg) (T O : Nat → Nat) (G : GS) (er : Int) (T' O' : Nat → Nat) (G' : GS) : Prop :=
  (er = 0 ∧ (∃ t, G.lw (page / 32) = some t) ∧ T' = upF T j (T j + 1) ∧ O' = O ∧ G' = G.set page (some g)) ∨
  (er = 0 ∧ G.lw (page / 32) = none ∧ ∃ t, t < n ∧ first ≤ t ∧ T t = 0 ∧ t ≠ j ∧ T' = upF (upF T j (T j + 1)) t 1 ∧ O' = upF O t 0 ∧ G' = (G.set page (some g)).setLw (page / 32) (some t)) ∨
  (er = 20 ∧ G.lw (page / 32) = none ∧ (∀ i, i < n → 0 < T i) ∧ T' = T ∧ O' = O ∧ G' = G)
theorem map_one {w : World} {I : Ids} {B T O E : Nat → Nat} {quo : Nat → Int} {G : GS} (h : One w I B T O E quo G) {page j : Nat} (hp : page < 1024) (r x1 x2 : Bool) (hr : rightR r x1 x2 = true) (hj : j < I.n) (hT0 : 0 < T j) (hO : O j = I.o) (hg : G.pg page = none) (hq0 : (I.n : Int) ≤ quo 0) :
    Calls Tryd.prog 16 #[.pointer (some ⟨I.tb, 0, none⟩), .int .i64 page, .int .i64 j, .agg #[.bool r, .bool x1, .bool x2]] w fun e w' => ∃ (er : Int) (B' T' O' : Nat → Nat) (G' : GS), e = .returned (.int .i64 er) ∧ One w' I B' T' O' E quo G' ∧ Kept T I.rt G B B' ∧ MapR I.n I.first page j ⟨j, r, x1, x2⟩ T O G er T' O' G' ∧ Chg [I.fp, I.bt, I.bw, I.q, I.tb, I.bl] w w' := by
  obtain ⟨s, c, L, low, g1, g2⟩ := h.ex
  have hk : page / 32 < 32 := by omega
  obtain ⟨m1, m2, m3⟩ := h.fs.own j hj hT0 hO
  have hml := mapsOf_le G j
  have heb := h.eb j
  have hno := g2.tells_none hp hg
  have hck := g2.cnt _ hk
  have hcl := cntP_le G (page / 32)
  have hadd := cntP_add (g := ⟨j, r, x1, x2⟩) hg
  have hmap := h.fs.mapped (g := ⟨j, r, x1, x2⟩) hp hg hj hT0 hO rfl
  have hok : okPg ⟨j, r, x1, x2⟩ := ⟨hr, by have := h.nb; show j < 256; omega⟩
  cases hl : G.lw (page / 32) with
  | some t =>
    obtain ⟨t1, t2, t3⟩ := g2.tin _ _ hk hl
    have hL := g2.L_some hk hl
    refine (Map_low g1 hp r x1 x2 hr hj hno hT0 (by omega) hO hL t1 (by rw [hck]; omega)).mono ?_
    rintro _ w' ⟨rfl, hG, hC⟩
    have hput := g2.put hp hl (some ⟨j, r, x1, x2⟩) (fun _ hh => by injection hh with hh; subst hh; exact hok) (by omega)
    rw [hadd, show ((cntP G (page / 32) + 1 : Nat) : Int) = c (page / 32) + 1 by rw [hck]; omega] at hput
    refine ⟨0, _, _, _, _, rfl, ⟨⟨s, _, L, _, hG, hput⟩, hmap, h.nb, h.eb⟩, ?_, Or.inl ⟨rfl, ⟨t, hl⟩, rfl, rfl, rfl⟩, hC.weaken (fun k hk => Or.inl (by simp at hk ⊢; omega))⟩
    intro i hT hr hk'
    have : i / 256 ≠ t := fun e => hk' _ hk (by rw [e]; exact hl)
    exact putB_out _ _ _ (by rw [leB_length]; omega)
  | none =>
    have hL := g2.L_none hk hl
    have hup : ∀ i, i < I.n → (0 < upF T j (T j + 1) i ↔ 0 < T i) := fun i hi => by
      unfold upF; split
      · rename_i e; rw [e]; omega
      · exact Iff.rfl
    have h0 : (ownC I.n (upF T j (T j + 1)) O 0 : Int) < quo 0 := by
      have := ownC_zero_lt (T := upF T j (T j + 1)) (O := O) hj (Or.inr (by rw [hO]; have := h.fs.og; omega))
      omega
    refine (Map_new g1 hp r x1 x2 hr hj hno hT0 (by omega) hO m1 hL g2.rin (by rw [hck]; omega) h0 (by rw [g2.sz]; have := lwN_le G; omega) (by have := h.fs.og; omega)).mono ?_
    rintro _ w' ⟨⟨t, ht, hlow, htT, htf, rfl, hG⟩ | ⟨hall, rfl, hG⟩, hC⟩
    · have htj : t ≠ j := fun e => by rw [e, upF_same] at htT; omega
      have hT0' : T t = 0 := by rw [upF_ne _ _ htj] at htT; exact htT
      have hr3 := h.fs.root
      have htr : t ≠ I.rt := fun e => by rw [e] at hT0'; omega
      have htn : ∀ k, k < 32 → G.lw k ≠ some t := fun k hk' hh => by
        have := (h.fs.tab k t hk' hh).2.2.1
        omega
      have hin : t * 256 + 256 ≤ I.N := by have := h.nN; omega
      have hput := g2.putNew hp hl hok hin (by have := h.nb; omega) htr htn
      refine ⟨0, _, _, _, _, rfl, ⟨⟨_, _, _, _, hG, hput⟩, hmap.tabled ht htT htf, h.nb, h.eb⟩, ?_, Or.inr (Or.inl ⟨rfl, hl, t, ht, htf, hT0', htj, rfl, rfl, rfl⟩), hC⟩
      intro i hT hr hk'
      have : i / 256 ≠ t := fun e => by rw [e] at hT; omega
      rw [putB_out _ _ _ (by rw [leB_length]; omega), putB_out _ _ _ (by rw [leB_length]; omega)]
      exact putB_out _ _ _ (by rw [List.length_replicate]; omega)
    · exact ⟨20, _, _, _, _, rfl, ⟨⟨_, _, _, _, hG, g2⟩, h.fs, h.nb, h.eb⟩, Kept.refl _ _ _ _, Or.inr (Or.inr ⟨rfl, hl, fun i hi => (hup i hi).mp (hall i hi), rfl, rfl, rfl⟩), hC⟩
theorem look_one {w : World} {I : Ids} {B T O E : Nat → Nat} {quo : Nat → Int} {G : GS} (h : One w I B T O E quo G) {page : Nat} (hp : page < 1024) :
    Calls Tryd.prog 13 #[.pointer (some ⟨I.tb, 0, none⟩), .int .i64 page] w fun e w' => e = .returned (match G.pg page with
      | some g => .tuple #[.int .i64 g.fr, .agg #[.bool g.r, .bool g.w, .bool g.x], .bool true]
      | none => .tuple #[.int .i64 0, .agg #[.bool false, .bool false, .bool false], .bool false]) ∧ Grows w w' := by
  obtain ⟨s, c, L, low, g1, g2⟩ := h.ex
  have hL := Look_any g1.st hp
  cases hg : G.pg page with
  | some g =>
    obtain ⟨e1, e2, e3, e4, e5⟩ := g2.tells_some hp hg
    rw [e1, e2, e3, e4, e5] at hL
    exact hL
  | none =>
    have e1 := g2.tells_none hp hg
    have e2 : ef (rdP I.N B L page) = 0 := by unfold ef; rw [e1]; rfl
    have e3 : ∀ k, eb (rdP I.N B L page) k = false := fun k => by unfold eb; rw [e1]; rfl
    rw [e1, e2, e3, e3, e3] at hL
    exact hL
theorem protect_no {w : World} {I : Ids} {B T O E : Nat → Nat} {quo : Nat → Int} {G : GS} (h : One w I B T O E quo G) {page : Nat} (hp : page < 1024) (r x1 x2 : Bool) (hr : rightR r x1 x2 = true) (hg : G.pg page = none) :
    Calls Tryd.prog 17 #[.pointer (some ⟨I.tb, 0, none⟩), .int .i64 page, .agg #[.bool r, .bool x1, .bool x2]] w fun e w' => e = .returned (.int .i64 14) ∧ Grows w w' := by
  obtain ⟨s, c, L, low, g1, g2⟩ := h.ex
  exact Protect_none g1.st hp r x1 x2 hr (g2.tells_none hp hg)
theorem protect_one {w : World} {I : Ids} {B T O E : Nat → Nat} {quo : Nat → Int} {G : GS} (h : One w I B T O E quo G) {page : Nat} (hp : page < 1024) (r x1 x2 : Bool) (hr : rightR r x1 x2 = true) {g : Pg} (hg : G.pg page = some g) :
    Calls Tryd.prog 17 #[.pointer (some ⟨I.tb, 0, none⟩), .int .i64 page, .agg #[.bool r, .bool x1, .bool x2]] w fun e w' => e = .returned (.int .i64 0) ∧ (∃ B', One w' I B' T O E quo (G.set page (some ⟨g.fr, r, x1, x2⟩)) ∧ Kept T I.rt G B B') ∧ Chg [I.q] w w' := by
  obtain ⟨s, c, L, low, g1, g2⟩ := h.ex
  obtain ⟨t, hl⟩ := g2.lw_some hp hg
  have hk : page / 32 < 32 := by omega
  obtain ⟨e1, e2, e3, e4, e5⟩ := g2.tells_some hp hg
  obtain ⟨t1, t2, t3⟩ := g2.tin _ _ hk hl
  have hL := g2.L_some hk hl
  have hP := Protect_ok g1.st hp r x1 x2 hr e1 hL t1
  rw [e2] at hP
  refine hP.mono ?_
  rintro _ w' ⟨rfl, hM, hC⟩
  have hkeep := cntP_keep (g' := ⟨g.fr, r, x1, x2⟩) hg
  have hcd := cntP_del hg
  have hput := g2.put hp hl (some ⟨g.fr, r, x1, x2⟩) (fun _ hh => by injection hh with hh; subst hh; exact ⟨hr, (g2.ok page g hp hg).2⟩) (by rw [hkeep]; omega)
  rw [hkeep, upC_self (g2.cnt _ hk)] at hput
  refine ⟨rfl, ⟨_, ⟨⟨s, c, L, low, g1.wrote hM hC, hput⟩, h.fs.protected hp hg rfl, h.nb, h.eb⟩, ?_⟩, hC⟩
  intro i hT hr hk'
  have : i / 256 ≠ t := fun e => hk' _ hk (by rw [e]; exact hl)
  exact putB_out _ _ _ (by rw [leB_length]; omega)
end Go.Proofs.YtlchlklbjocliaaDoor
