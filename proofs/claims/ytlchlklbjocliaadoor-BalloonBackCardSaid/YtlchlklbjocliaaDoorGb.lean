/- The balloon told by pages: Give, Take, Settle. -/
import Derived.Test.YtlchlklbjocliaaDoorGo
import Derived.Test.YtlchlklbjocliaaDoorBaD
import Derived.Test.YtlchlklbjocliaaDoorBaB
namespace Go.Proofs.YtlchlklbjocliaaDoor
open Go Go.RowKit
set_option linter.unusedSimpArgs false
set_option linter.unusedVariables false
set_option maxRecDepth 100000
/-- A balloon's own blocks are none of the others'. -/
structure BaSep (ba bv : Nat) (I : Ids) : Prop where
  a : ba ≠ I.fp ∧ ba ≠ I.bt ∧ ba ≠ I.bw ∧ ba ≠ I.q ∧ ba ≠ I.tb ∧ ba ≠ I.pm ∧ ba ≠ I.bl ∧ ba ≠ 1 ∧ ba ≠ 0
  v : bv ≠ I.fp ∧ bv ≠ I.bt ∧ bv ≠ I.bw ∧ bv ≠ I.q ∧ bv ≠ I.tb ∧ bv ≠ I.pm ∧ bv ≠ I.bl ∧ bv ≠ 1 ∧ bv ≠ 0
set_option maxHeartbeats 1000000 in
theorem Give_quota {w : World} {ba tb pm fp bl s q N o : Nat} {root : Int} {c : Nat → Int} {L : Int → Option Int} {B : Nat → Nat} {bt bw n first : Nat} {T O : Nat → Nat} {quo : Nat → Int} {low : Nat} {pages : Int} {bv sv : Nat} {gvn tk : Int} {F : Int → Option Bool} (hba : BaAt w ba pm fp tb (o : Int) pages bv sv gvn tk F) (h : GuAt w tb pm fp bl s q N o root c L B bt bw n first T O quo low) {page : Nat} (hp : page < 1024) (hpp : (page : Int) < pages) (hg : gok (rdP N B L page) = false) (ho17 : o < 17) (hq : quo o ≤ ownC n T O o) :
    Calls Tryd.prog 36 #[.pointer (some ⟨ba, 0, none⟩), .int .i64 page] w fun e w' => e = .returned (.int .i64 19) ∧ Grows w w' := by
  have hwr := bwrong_ok hba (page := page) (by omega) hpp
  have hlo := Look_any h.st hp
  rw [hg] at hlo
  generalize rdP N B L page = v at *
  have lt := hba.row.lt
  have c2 : w.cell? ⟨ba, 2, none⟩ = some (.pointer (some ⟨tb, 0, none⟩)) := hba.row.cell 2
  have HB := Lib.hid hba
  have HAL := Lib.hid (fun W (hF : FrAt W fp bt bw n first T O quo low) => Alloc_quota hF ho17 hq)
  have HF := Lib.hid h.fr
  clear hba h hpp hg hp hq ho17
  go_enter Tryd.func36, Tryd.ntmps36
  go_wp2_with fail
  refine (hwr).mono ?_
  rintro _ _ ⟨rfl, hw⟩
  rw [hw]
  clear hw
  go_wp2_with fail
  refine hlo.mono ?_
  rintro _ w1 ⟨rfl, hg1⟩
  clear hlo hwr c2 lt
  go_upto_region 5 with fail
  obtain ⟨W2, hW2⟩ : ∃ W2, W2 = w1.alloc (Obj.cells #[.bool (eb v 1), .bool (eb v 2), .bool (eb v 3)] 23) := ⟨_, rfl⟩
  rw [← hW2]
  have hg2 : Grows w W2 := by rw [hW2]; exact hg1.alloc _
  have HB2 := Lib.hid (HB.out.chg (Chg.of_grows (S := []) hg2) (by simp) (by simp))
  have HG2 := Lib.hid hg2
  clear hW2 hg1 hg2 HB
  have lt := HB2.out.row.lt
  go_wp2_with fail
  have HSG := Lib.hid (fun (w' : World) (h : Row w' ba (baL pm fp tb (o : Int) pages bv gvn tk) 100) => (⟨h.cell 1, h.cell 3⟩ : w'.cell? ⟨ba, 1, none⟩ = some (.pointer (some ⟨fp, 0, none⟩)) ∧ w'.cell? ⟨ba, 3, none⟩ = some (.int .i64 o)))
  go_region_held3 (fun w' => w'.cell? ⟨ba, 1, none⟩ = some (.pointer (some ⟨fp, 0, none⟩)) ∧ w'.cell? ⟨ba, 3, none⟩ = some (.int .i64 o)) (first
    | with_reducible exact HSG.out _ ((HB2.out.row.grows ((Grows.refl _).drew)).grows HG3.out)
    | with_reducible exact HSG.out _ (HB2.out.row.grows ((Grows.refl _).drew))) (first
    | (go_at_call 29; refine (HAL.out _ (HF.out.grows (HG2.out.trans ((Grows.refl _).drew)))).mono ?_; rintro _ w3 ⟨rfl, hg3⟩
       have HG3 := Lib.hid hg3
       clear hg3))
  all_goals
    have HG4 := Lib.hid ((HG2.out.drew).trans HG3.out)
    clear HB2 HG2 HG3 HSG HAL HF lt
    go_wp2_with fail
    go_ret
    exact ⟨rfl, HG4.out⟩
theorem upF_up (f : Nat → Nat) (i a b : Nat) : upF (upF f i a) i b = upF f i b := by
  funext j; unfold upF; split <;> rfl
/-- What becomes of a page that is given. -/
def GiveR (n first o : Nat) (T O : Nat → Nat) (quo : Nat → Int) (G : GS) (page : Nat) (gvn er gv' : Int) (B' T' O' : Nat → Nat) (G' : GS) : Prop :=
  (G.pg page ≠ none ∧ er = 13 ∧ T' = T ∧ O' = O ∧ G' = G ∧ gv' = gvn) ∨
  (G.pg page = none ∧ quo o ≤ ownC n T O o ∧ er = 19 ∧ T' = T ∧ O' = O ∧ G' = G ∧ gv' = gvn) ∨
  (G.pg page = none ∧ (ownC n T O o : Int) < quo o ∧ er = 20 ∧ T' = T ∧ (∀ f, 0 < T f → O' f = O f) ∧ G' = G ∧ gv' = gvn ∧ ((∀ i, i < n → 0 < T i) ∨ G.lw (page / 32) = none ∧ ∃ k, k < n ∧ T k = 0 ∧ ∀ i, i < n → i ≠ k → 0 < T i)) ∨
  (G.pg page = none ∧ (ownC n T O o : Int) < quo o ∧ er = 0 ∧ gv' = gvn + 1 ∧ ∃ k, k < n ∧ first ≤ k ∧ T k = 0 ∧ (∀ i, i < 256 → B' (k * 256 + i) = 0) ∧
    (((∃ t, G.lw (page / 32) = some t) ∧ T' = upF T k 2 ∧ O' = upF O k o ∧ G' = G.set page (some ⟨k, true, true, true⟩)) ∨
     (G.lw (page / 32) = none ∧ ∃ t, t < n ∧ first ≤ t ∧ t ≠ k ∧ T t = 0 ∧ T' = upF (upF T k 2) t 1 ∧ O' = upF (upF O k o) t 0 ∧ G' = (G.set page (some ⟨k, true, true, true⟩)).setLw (page / 32) (some t))))
theorem give_all {w : World} {ba bv sv : Nat} {I : Ids} {B T O E : Nat → Nat} {quo : Nat → Int} {G : GS} {pages gvn tk : Int} {F : Int → Option Bool} (hba : BaAt w ba I.pm I.fp I.tb (I.o : Int) pages bv sv gvn tk F) (h : One w I B T O E quo G) (hd : BaSep ba bv I) {page : Nat} (hp : page < 1024) (hpp : (page : Int) < pages) (hgv : 0 ≤ gvn ∧ gvn < 1000000) (hE : ∀ f, f < I.n → T f = 0 → E f = 1) (hq0 : (I.n : Int) ≤ quo 0) :
    Calls Tryd.prog 36 #[.pointer (some ⟨ba, 0, none⟩), .int .i64 page] w fun e w' => ∃ (er gv' : Int) (B' T' O' : Nat → Nat) (G' : GS), e = .returned (.int .i64 er) ∧ BaAt w' ba I.pm I.fp I.tb (I.o : Int) pages bv sv gv' tk F ∧ One w' I B' T' O' E quo G' ∧ Chg [I.fp, I.bt, I.bw, I.q, I.tb, ba, I.bl] w w' ∧ Kept T I.rt G B B' ∧ GiveR I.n I.first I.o T O quo G page gvn er gv' B' T' O' G' := by
  obtain ⟨s, c, L, low, g1, g2⟩ := h.ex
  have hk : page / 32 < 32 := by omega
  have ho := h.fs.og
  have hnN := h.nN
  have hnb := h.nb
  obtain ⟨a1, a2, a3, a4, a5, a6, a7, a8, a9⟩ := hd.a
  obtain ⟨v1, v2, v3, v4, v5, v6, v7, v8, v9⟩ := hd.v
  cases hg : G.pg page with
  | some g =>
    refine (Give_there hba g1.st hp hpp (g2.tells_some hp hg).1).mono ?_
    rintro _ w' ⟨rfl, hgr⟩
    exact ⟨13, gvn, B, T, O, G, rfl, hba.chg (Chg.of_grows (S := []) hgr) (by simp) (by simp), h.grows hgr, Chg.of_grows hgr, Kept.refl _ _ _ _, Or.inl ⟨by rw [hg]; simp, rfl, rfl, rfl, rfl, rfl⟩⟩
  | none =>
    have hno := g2.tells_none hp hg
    by_cases hq : (ownC I.n T O I.o : Int) < quo I.o
    · have hck := g2.cnt _ hk
      have hcl := cntP_le G (page / 32)
      have hadd := fun k => cntP_add (g := ⟨k, true, true, true⟩) hg
      have hok : ∀ k, k < I.n → okPg ⟨k, true, true, true⟩ := fun k hk => ⟨rfl, by show k < 256; omega⟩
      have hr3 := h.fs.root
      have hgiv : ∀ k, k < I.n → T k = 0 → I.first ≤ k → FsAt I.n I.first I.o I.rt (upF T k 2) (upF O k I.o) E (G.set page (some ⟨k, true, true, true⟩)) := fun k hkn hTk hfk => by
        obtain ⟨f1, f2⟩ := h.fs.given hkn hTk hfk (hE k hkn hTk)
        have f3 := f1.mapped (g := ⟨k, true, true, true⟩) hp hg hkn (by rw [upF_same]; omega) (upF_same _ _ _) rfl
        rw [upF_up, upF_same] at f3
        exact f3
      have hup : ∀ k, upF (upF T k 1) k (upF T k 1 k + 1) = upF T k 2 := fun k => by rw [upF_up, upF_same]
      cases hl : G.lw (page / 32) with
      | some t =>
        obtain ⟨t1, t2, t3⟩ := g2.tin _ _ hk hl
        obtain ⟨b1, b2, b3, b4⟩ := h.fs.tab _ _ hk hl
        have hL := g2.L_some hk hl
        refine (Give_low hba g1 ⟨a1, a2, a3, a4, a5⟩ ⟨v1, v2, v3, v4, v5⟩ ⟨a6, a7, a8, a9⟩ hp hpp hno (by omega) hq hL t1 (by omega) (by rw [hck]; omega) hgv).mono ?_
        rintro _ w' (⟨k, hkn, hlow, hTk, hfk, rfl, hB', hG', hC⟩ | ⟨hall, rfl, hB', hG', hC⟩)
        · have htk : t ≠ k := fun e => by rw [e] at b3; omega
          have hput := (g2.foreign (C := putB B (k * 256) (List.replicate 256 0)) (fun i hi => putB_out _ _ _ (by
              rw [List.length_replicate]
              have : i / 256 ≠ k := fun e => by
                rcases hi with hi | ⟨k', hk', hi⟩
                · rw [e] at hi; rw [hi] at hTk; omega
                · have := (h.fs.tab k' _ hk' hi).2.2.1; rw [e] at this; omega
              omega))).put hp hl (some ⟨k, true, true, true⟩) (fun _ hh => by injection hh with hh; subst hh; exact hok k hkn) (by rw [hadd]; omega)
          rw [hadd, show ((cntP G (page / 32) + 1 : Nat) : Int) = c (page / 32) + 1 by rw [hck]; omega] at hput
          rw [hup] at hG'
          refine ⟨0, gvn + 1, _, _, _, _, rfl, hB', ⟨⟨s, _, L, _, hG', hput⟩, hgiv k hkn hTk hfk, h.nb, h.eb⟩, hC.weaken (fun k hk => Or.inl (by simp at hk ⊢; omega)), ?_, Or.inr (Or.inr (Or.inr ⟨hg, hq, rfl, rfl, k, hkn, hfk, hTk, fun i hi => ?_, Or.inl ⟨⟨t, hl⟩, rfl, rfl, rfl⟩⟩))⟩
          · intro i hT hr hk'
            have : i / 256 ≠ t := fun e => hk' _ hk (by rw [e]; exact hl)
            have : i / 256 ≠ k := fun e => by rw [e] at hT; omega
            rw [putB_out _ _ _ (by rw [leB_length]; omega)]
            exact putB_out _ _ _ (by rw [List.length_replicate]; omega)
          · rw [putB_out _ _ _ (by rw [leB_length]; omega)]
            exact zero_at B k hi
        · exact ⟨20, gvn, _, _, _, _, rfl, hB', ⟨⟨s, _, L, _, hG', g2⟩, h.fs, h.nb, h.eb⟩, hC.weaken (fun k hk => Or.inl (by simp at hk ⊢; omega)), Kept.refl _ _ _ _, Or.inr (Or.inr (Or.inl ⟨hg, hq, rfl, rfl, fun _ _ => rfl, rfl, rfl, Or.inl hall⟩))⟩
      | none =>
        have hL := g2.L_none hk hl
        have hq0' : ∀ k, k < I.n → T k = 0 → (ownC I.n (upF (upF T k 1) k (upF T k 1 k + 1)) (upF O k I.o) 0 : Int) < quo 0 := fun k hkn hTk => by
          have := ownC_zero_lt (T := upF (upF T k 1) k (upF T k 1 k + 1)) (O := upF O k I.o) hkn (Or.inr (by rw [upF_same]; omega))
          omega
        refine (Give_new hba g1 ⟨a1, a2, a3, a4, a5⟩ ⟨v1, v2, v3, v4, v5, v7⟩ ⟨a6, a7, a8, a9⟩ hp hpp hno (by omega) hq hL g2.rin hq0' (by rw [g2.sz]; have := lwN_le G; omega) (by rw [hck]; omega) hgv).mono ?_
        rintro _ w' (⟨k, t, hkn, hlow, hTk, hfk, ht, htl, htT, htf, rfl, hB', hG', hC⟩ | ⟨k, hkn, hTk, hfk, hall, rfl, hB', hG', hC⟩ | ⟨hall, rfl, hB', hG', hC⟩)
        · rw [hup] at htT hG'
          have htk : t ≠ k := fun e => by rw [e, upF_same] at htT; omega
          have hTt : T t = 0 := by rw [upF_ne _ _ htk] at htT; exact htT
          have htr : t ≠ I.rt := fun e => by rw [e] at hTt; omega
          have hkr : k ≠ I.rt := fun e => by rw [e] at hTk; omega
          have htn : ∀ k', k' < 32 → G.lw k' ≠ some t := fun k' hk' hh => by
            have := (h.fs.tab k' t hk' hh).2.2.1
            omega
          have hin : t * 256 + 256 ≤ I.N := by omega
          have hput := (g2.foreign (C := putB B (k * 256) (List.replicate 256 0)) (fun i hi => putB_out _ _ _ (by
              rw [List.length_replicate]
              have : i / 256 ≠ k := fun e => by
                rcases hi with hi | ⟨k', hk', hi⟩
                · rw [e] at hi; rw [hi] at hTk; omega
                · have := (h.fs.tab k' _ hk' hi).2.2.1; rw [e] at this; omega
              omega))).putNew hp hl (hok k hkn) hin (by omega) htr htn
          refine ⟨0, gvn + 1, _, _, _, _, rfl, hB', ⟨⟨_, _, _, _, hG', hput⟩, (hgiv k hkn hTk hfk).tabled ht htT htf, h.nb, h.eb⟩, hC, ?_, Or.inr (Or.inr (Or.inr ⟨hg, hq, rfl, rfl, k, hkn, hfk, hTk, fun i hi => ?_, Or.inr ⟨hl, t, ht, htf, htk, hTt, rfl, rfl, rfl⟩⟩))⟩
          · intro i hT hr hk'
            have : i / 256 ≠ t := fun e => by rw [e] at hT; omega
            have : i / 256 ≠ k := fun e => by rw [e] at hT; omega
            rw [putB_out _ _ _ (by rw [leB_length]; omega), putB_out _ _ _ (by rw [leB_length]; omega), putB_out _ _ _ (by rw [List.length_replicate]; omega)]
            exact putB_out _ _ _ (by rw [List.length_replicate]; omega)
          · rw [putB_out _ _ _ (by rw [leB_length]; omega), putB_out _ _ _ (by rw [leB_length]; omega), putB_out _ _ _ (by rw [List.length_replicate]; omega)]
            exact zero_at B k hi
        · rw [hup] at hall
          have hOk : ∀ f, 0 < T f → upF O k I.o f = O f := fun f hf => upF_ne _ _ (fun e => by rw [e] at hf; omega)
          refine ⟨20, gvn, _, _, _, _, rfl, hB', ⟨⟨s, _, L, _, hG', g2.foreign (fun i hi => putB_out _ _ _ (by
              rw [List.length_replicate]
              have : i / 256 ≠ k := fun e => by
                rcases hi with hi | ⟨k', hk', hi⟩
                · rw [e] at hi; rw [hi] at hTk; omega
                · have := (h.fs.tab k' _ hk' hi).2.2.1; rw [e] at this; omega
              omega))⟩, h.fs.owners hOk, h.nb, h.eb⟩, hC, ?_, Or.inr (Or.inr (Or.inl ⟨hg, hq, rfl, rfl, hOk, rfl, rfl, Or.inr ⟨hl, k, hkn, hTk, fun i hi hik => ?_⟩⟩))⟩
          · intro i hT hr hk'
            have : i / 256 ≠ k := fun e => by rw [e] at hT; omega
            exact putB_out _ _ _ (by rw [List.length_replicate]; omega)
          · have := hall i hi
            rw [upF_ne _ _ hik] at this; exact this
        · exact ⟨20, gvn, _, _, _, _, rfl, hB', ⟨⟨s, _, L, _, hG', g2⟩, h.fs, h.nb, h.eb⟩, hC, Kept.refl _ _ _ _, Or.inr (Or.inr (Or.inl ⟨hg, hq, rfl, rfl, fun _ _ => rfl, rfl, rfl, Or.inl hall⟩))⟩
    · refine (Give_quota hba g1 hp hpp hno (by omega) (by omega)).mono ?_
      rintro _ w' ⟨rfl, hgr⟩
      exact ⟨19, gvn, B, T, O, G, rfl, hba.chg (Chg.of_grows (S := []) hgr) (by simp) (by simp), h.grows hgr, Chg.of_grows hgr, Kept.refl _ _ _ _, Or.inr (Or.inl ⟨hg, by omega, rfl, rfl, rfl, rfl, rfl⟩)⟩
theorem take_no {w : World} {ba bv sv : Nat} {I : Ids} {B T O E : Nat → Nat} {quo : Nat → Int} {G : GS} {pages gvn tk : Int} {F : Int → Option Bool} (hba : BaAt w ba I.pm I.fp I.tb (I.o : Int) pages bv sv gvn tk F) (h : One w I B T O E quo G) {page : Nat} (hp : page < 1024) (hpp : (page : Int) < pages) (hg : G.pg page = none) :
    Calls Tryd.prog 34 #[.pointer (some ⟨ba, 0, none⟩), .int .i64 page] w fun e w' => e = .returned (.tuple #[.int .i64 0, .int .i64 14]) ∧ Grows w w' :=
  Take_none hba hpp (unmap_no h hp hg)
set_option maxHeartbeats 2000000 in
theorem take_one {w : World} {ba bv sv : Nat} {I : Ids} {B T O E : Nat → Nat} {quo : Nat → Int} {G : GS} {pages gvn tk : Int} {F : Int → Option Bool} (hba : BaAt w ba I.pm I.fp I.tb (I.o : Int) pages bv sv gvn tk F) (h : One w I B T O E quo G) (hd : BaSep ba bv I) {page : Nat} (hp : page < 1024) (hpp : (page : Int) < pages) {g : Pg} (hg : G.pg page = some g) (hsv : sv < 1000000) (htk : 0 ≤ tk ∧ tk < 1000000) :
    Calls Tryd.prog 34 #[.pointer (some ⟨ba, 0, none⟩), .int .i64 page] w fun e w' => e = .returned (.tuple #[.int .i64 g.fr, .int .i64 0]) ∧ ∃ (B' T' : Nat → Nat) (G' : GS), BaAt w' ba I.pm I.fp I.tb (I.o : Int) pages bv (if (F g.fr).isSome then sv else sv + 1) gvn (tk + 1) (bmUpd F g.fr true) ∧ One w' I B' T' O E quo G' ∧ Chg [I.fp, I.bt, I.bw, I.q, I.tb, I.bl, ba, bv] w w' ∧ Kept T I.rt G B B' ∧ UnR G page g T T' G' := by
  obtain ⟨a1, a2, a3, a4, a5, a6, a7, a8, a9⟩ := hd.a
  obtain ⟨v1, v2, v3, v4, v5, v6, v7, v8, v9⟩ := hd.v
  have hf := (h.fs.pgs page g hp hg).1
  have hnb := h.nb
  refine (Take_of hba hpp (f := g.fr) (by omega) hsv htk (by simp; omega) (by simp; omega) (unmap_one h hp hg)).mono ?_
  rintro _ w' ⟨rfl, w1, ⟨B', T', G', hO, hK, hU⟩, hC1, hC2, hB'⟩
  obtain ⟨s, c, L, low, g1, g2⟩ := hO.ex
  refine ⟨rfl, B', T', G', hB', ⟨⟨s, c, L, low, g1.apart hC2 (by simp; omega) (by simp; omega) (by simp; omega) (by simp; omega) (by simp; omega) (by simp; omega) (by simp; omega), g2⟩, hO.fs, hO.nb, hO.eb⟩, (hC1.weaken (fun k hk => Or.inl (by simp at hk ⊢; omega))).trans (hC2.weaken (fun k hk => Or.inl (by simp at hk ⊢; omega))), hK, hU⟩
set_option maxHeartbeats 2000000 in
theorem settle_one {w : World} {ba bv sv : Nat} {I : Ids} {B T O E : Nat → Nat} {quo : Nat → Int} {G : GS} {pages gvn tk : Int} {F : Int → Option Bool} (hba : BaAt w ba I.pm I.fp I.tb (I.o : Int) pages bv sv gvn tk F) (h : One w I B T O E quo G) (hd : BaSep ba bv I) {f : Nat} (hf : f < I.n) (hT : T f = 1) (hO : O f = I.o) (hF : F (f : Int) = some true) :
    Calls Tryd.prog 35 #[.pointer (some ⟨ba, 0, none⟩), .int .i64 f] w fun e w' => e = .returned (.int .i64 0) ∧ BaAt w' ba I.pm I.fp I.tb (I.o : Int) pages bv (sv - 1) gvn tk (bmDel F f) ∧ One w' I (putB B (f * 256) (List.replicate 256 0)) (upF T f 0) O E quo G ∧ Chg [I.fp, I.bt, I.bw, I.q, bv] w w' := by
  obtain ⟨a1, a2, a3, a4, a5, a6, a7, a8, a9⟩ := hd.a
  obtain ⟨v1, v2, v3, v4, v5, v6, v7, v8, v9⟩ := hd.v
  obtain ⟨s, c, L, low, g1, g2⟩ := h.ex
  obtain ⟨m1, m2, m3⟩ := h.fs.own f hf (by omega) hO
  have s1 := g1.st.sep
  have s2 := g1.apt
  have s3 := g1.apl
  have g3 := g1.apg I.fp (Or.inl rfl)
  have g4 := g1.apg I.bt (Or.inr (Or.inl rfl))
  have g5 := g1.apg I.bw (Or.inr (Or.inr (Or.inl rfl)))
  refine (Settle_ok hba g1.st.mem g1.fr g1.hnN hf hT hO m1 hF ⟨a1, a2, a3, a4, a6⟩ ⟨v1, v2, v3, v4, v6⟩ g1.apq).mono ?_
  rintro _ w' ⟨rfl, hF', hM', hB', hC⟩
  have hne : ∀ i, (i / 256 = I.rt ∨ ∃ k, k < 32 ∧ G.lw k = some (i / 256)) → i / 256 ≠ f := fun i hi e => by
    have ho := h.fs.og
    rcases hi with hi | ⟨k', hk', hi⟩
    · have := h.fs.root.2.2.2; rw [← hi, e, hO] at this; omega
    · have := (h.fs.tab k' _ hk' hi).2.2.2; rw [e, hO] at this; omega
  refine ⟨rfl, hB', h.foreign hF' hM' hC (by simp; omega) (by simp; omega) (by simp; omega) (by simp; omega) (fun i hi => ?_) (h.fs.freed hf hT hO) h.eb, hC⟩
  have := hne i hi
  exact putB_out _ _ _ (by rw [List.length_replicate]; omega)
end Go.Proofs.YtlchlklbjocliaaDoor
