/- The package balloon: Give, where the lower table is to be made; Give where a page is. -/
import Derived.Test.YtlchlklbjocliaaDoorBaC
namespace Go.Proofs.YtlchlklbjocliaaDoor
open Go Go.RowKit
set_option linter.unusedSimpArgs false
set_option linter.unusedVariables false
set_option maxRecDepth 100000
set_option maxHeartbeats 1000000 in
theorem Give_there {w : World} {ba tb pm fp bl s q N o : Nat} {root : Int} {c : Nat → Int} {L : Int → Option Int} {B : Nat → Nat} {pages : Int} {bv sv : Nat} {gvn tk : Int} {F : Int → Option Bool} (hba : BaAt w ba pm fp tb (o : Int) pages bv sv gvn tk F) (h : StAt w tb pm fp bl s q N (o : Int) root c L B) {page : Nat} (hp : page < 1024) (hpp : (page : Int) < pages) (hg : gok (rdP N B L page) = true) :
    Calls Tryd.prog 36 #[.pointer (some ⟨ba, 0, none⟩), .int .i64 page] w fun e w' => e = .returned (.int .i64 13) ∧ Grows w w' := by
  have hwr := bwrong_ok hba (page := page) (by omega) hpp
  have hlo := Look_any h hp
  rw [hg] at hlo
  generalize rdP N B L page = v at *
  have lt := hba.row.lt
  have c2 : w.cell? ⟨ba, 2, none⟩ = some (.pointer (some ⟨tb, 0, none⟩)) := hba.row.cell 2
  clear hba h hpp hg hp
  go_enter Tryd.func36, Tryd.ntmps36
  go_wp2_with fail
  refine (hwr).mono ?_
  rintro _ _ ⟨rfl, hw⟩
  rw [hw]
  clear hw
  go_wp2_with fail
  refine hlo.mono ?_
  rintro _ w1 ⟨rfl, hg1⟩
  clear hlo hwr c2 lt
  go_wp2_with fail
  go_ret
  exact ⟨rfl, hg1.alloc _⟩
set_option maxHeartbeats 4000000 in
theorem Give_new {w : World} {ba tb pm fp bl s q N o rt : Nat} {c : Nat → Int} {L : Int → Option Int} {B : Nat → Nat} {bt bw n first : Nat} {T O : Nat → Nat} {quo : Nat → Int} {low : Nat} {pages : Int} {bv sv : Nat} {gvn tk : Int} {F : Int → Option Bool} (hba : BaAt w ba pm fp tb (o : Int) pages bv sv gvn tk F) (h : GuAt w tb pm fp bl s q N o (rt : Int) c L B bt bw n first T O quo low)
    (hd1 : ba ≠ fp ∧ ba ≠ bt ∧ ba ≠ bw ∧ ba ≠ q ∧ ba ≠ tb) (hd2 : bv ≠ fp ∧ bv ≠ bt ∧ bv ≠ bw ∧ bv ≠ q ∧ bv ≠ tb ∧ bv ≠ bl) (hd3 : ba ≠ pm ∧ ba ≠ bl ∧ ba ≠ 1 ∧ ba ≠ 0)
    {page : Nat} (hp : page < 1024) (hpp : (page : Int) < pages) (hg : gok (rdP N B L page) = false) (ho17 : o < 17) (hq : (ownC n T O o : Int) < quo o) (hl : L ((page / 32 : Nat) : Int) = none) (hrt : rt * 256 + 256 ≤ N) (hq0 : ∀ k, k < n → T k = 0 → (ownC n (upF (upF T k 1) k (upF T k 1 k + 1)) (upF O k o) 0 : Int) < quo 0) (hs : s < 1000000) (hck : 0 ≤ c (page / 32) ∧ c (page / 32) ≤ 1024) (hgv : 0 ≤ gvn ∧ gvn < 1000000) :
    Calls Tryd.prog 36 #[.pointer (some ⟨ba, 0, none⟩), .int .i64 page] w fun e w' =>
      (∃ k t : Nat, k < n ∧ (∀ i, i < k → 0 < T i) ∧ T k = 0 ∧ first ≤ k ∧ t < n ∧ (∀ i, i < t → 0 < upF (upF T k 1) k (upF T k 1 k + 1) i) ∧ upF (upF T k 1) k (upF T k 1 k + 1) t = 0 ∧ first ≤ t ∧ e = .returned (.int .i64 0) ∧ BaAt w' ba pm fp tb (o : Int) pages bv sv (gvn + 1) tk F ∧ GuAt w' tb pm fp bl (s + 1) q N o (rt : Int) (upC c (page / 32) (c (page / 32) + 1)) (imUpd L ((page / 32 : Nat) : Int) t) (putB (putB (putB (putB B (k * 256) (List.replicate 256 0)) (t * 256) (List.replicate 256 0)) (rt * 256 + 8 * (page / 32)) (leB (packN true false false false false false false t) 8)) (t * 256 + 8 * (page % 32)) (leB (packN true true true true true false false k) 8)) bt bw n first (upF (upF (upF T k 1) k (upF T k 1 k + 1)) t 1) (upF (upF O k o) t 0) quo t ∧ Chg [fp, bt, bw, q, tb, ba, bl] w w') ∨
      (∃ k : Nat, k < n ∧ T k = 0 ∧ first ≤ k ∧ (∀ i, i < n → 0 < upF (upF T k 1) k (upF T k 1 k + 1) i) ∧ e = .returned (.int .i64 20) ∧ BaAt w' ba pm fp tb (o : Int) pages bv sv gvn tk F ∧ GuAt w' tb pm fp bl s q N o (rt : Int) c L (putB B (k * 256) (List.replicate 256 0)) bt bw n first T (upF O k o) quo (min n k) ∧ Chg [fp, bt, bw, q, tb, ba, bl] w w') ∨
      ((∀ i, i < n → 0 < T i) ∧ e = .returned (.int .i64 20) ∧ BaAt w' ba pm fp tb (o : Int) pages bv sv gvn tk F ∧ GuAt w' tb pm fp bl s q N o (rt : Int) c L B bt bw n first T O quo n ∧ Chg [fp, bt, bw, q, tb, ba, bl] w w') := by
  have hwr := bwrong_ok hba (page := page) (by omega) hpp
  have hlo := Look_any h.st hp
  rw [hg] at hlo
  have wg : IntKind.i64.wrap (gvn + 1) = gvn + 1 := by rw [IntKind.wrap_i64]; omega
  have HAL := Lib.hid (fun W (hF : FrAt W fp bt bw n first T O quo low) => alloc_all hF ho17 hq)
  have HCL := Lib.hid (fun W C (k : Nat) (hk : k < n) (hM : Mem W pm q N C) => Clear_ok hM k (by have := h.hnN; omega))
  have HMP := Lib.hid (fun W (k : Nat) (hk : k < n) (hTk : T k = 0) (hfk : first ≤ k) (hG : GuAt W tb pm fp bl s q N o (rt : Int) c L (putB B (k * 256) (List.replicate 256 0)) bt bw n first (upF T k 1) (upF O k o) quo k) => Map_new hG hp true true true rfl hk (by
      unfold rdP
      rw [hl]
      exact gok0) (by rw [upF_same]; omega) (by rw [upF_same]; omega) (by rw [upF_same]) hfk hl hrt hck (hq0 k hk hTk) hs (by omega))
  have hback : ∀ k, T k = 0 → upF (upF T k 1) k 0 = T := fun k hk => by
    funext i
    unfold upF
    by_cases hi : i = k
    · rw [if_pos hi, hi, hk]
    · rw [if_neg hi, if_neg hi]
  have HFR := Lib.hid (fun W (k : Nat) (hk : k < n) (hTk : T k = 0) (hfk : first ≤ k) (hF : FrAt W fp bt bw n first (upF T k 1) (upF O k o) quo n) => by have := Free_last hF hk (by rw [upF_same]) (by rw [upF_same] : upF O k o k = o) hfk; rw [hback k hTk] at this; exact this)
  generalize rdP N B L page = v at *
  have HB := Lib.hid hba
  have HH := Lib.hid h
  have lt := hba.row.lt
  have c2 : w.cell? ⟨ba, 2, none⟩ = some (.pointer (some ⟨tb, 0, none⟩)) := hba.row.cell 2
  clear hba h hpp hg ho17 hq hl hrt hq0 hs hck hgv hback
  go_enter Tryd.func36, Tryd.ntmps36
  go_wp2_with fail
  refine (hwr).mono ?_
  rintro _ _ ⟨rfl, hw⟩
  rw [hw]
  clear hw
  go_wp2_with fail
  refine hlo.mono ?_
  rintro _ w1 ⟨rfl, hg1⟩
  clear hlo hwr c2 lt
  go_upto_region 5 with fail
  obtain ⟨W2, hW2⟩ : ∃ W2, W2 = w1.alloc (Obj.cells #[.bool (eb v 1), .bool (eb v 2), .bool (eb v 3)] 23) := ⟨_, rfl⟩
  rw [← hW2]
  have hg2 : Grows w W2 := by rw [hW2]; exact hg1.alloc _
  have HB2 := Lib.hid (HB.out.chg (Chg.of_grows (S := []) hg2) (by simp) (by simp))
  have HH2 := Lib.hid (HH.out.grows hg2)
  have HC2 := Lib.hid (Chg.of_grows (S := [fp, bt, bw, q, tb, ba, bl]) hg2)
  clear hW2 hg1 hg2 HB HH
  have lt := HB2.out.row.lt
  go_wp2_with fail
  have HSG := Lib.hid (fun (w' : World) (h : Row w' ba (baL pm fp tb (o : Int) pages bv gvn tk) 100) => (⟨h.cell 1, h.cell 3⟩ : w'.cell? ⟨ba, 1, none⟩ = some (.pointer (some ⟨fp, 0, none⟩)) ∧ w'.cell? ⟨ba, 3, none⟩ = some (.int .i64 o)))
  go_region_held3 (fun w' => w'.cell? ⟨ba, 1, none⟩ = some (.pointer (some ⟨fp, 0, none⟩)) ∧ w'.cell? ⟨ba, 3, none⟩ = some (.int .i64 o)) (first
    | with_reducible exact HSG.out _ ((HB2.out.row.grows ((Grows.refl _).drew)).chg HC3.out (by simp; omega))
    | with_reducible exact HSG.out _ (HB2.out.row.grows ((Grows.refl _).drew))) (first
    | (go_at_call 29; refine (HAL.out _ (HH2.out.grows ((Grows.refl _).drew)).fr).mono ?_; rintro _ w3 ⟨tv, ee, rfl, hA3, hC3⟩
       have HA3 := Lib.hid hA3
       have HC3 := Lib.hid hC3
       clear hA3 hC3))
  all_goals
    have HB3 := Lib.hid ((HB2.out.chg (Chg.of_grows (S := []) ((Grows.refl W2).drew)) (by simp) (by simp)).chg HC3.out (by simp; omega) (by simp; omega))
    have HC4 := Lib.hid ((HC2.out.drew).trans (HC3.out.weaken (T := [fp, bt, bw, q, tb, ba, bl]) (fun k hk => Or.inl (by simp at hk ⊢; omega))))
    rcases HA3.out with ⟨k, hk, hlow, hTk, hfk, rfl, rfl, hF3⟩ | ⟨hall, rfl, rfl, hF3⟩
    · have HH3 := Lib.hid ((HH2.out.grows ((Grows.refl _).drew)).framed hF3 HC3.out)
      have HA := Lib.hid (show k < n ∧ (∀ i, i < k → 0 < T i) ∧ T k = 0 ∧ first ≤ k from ⟨hk, hlow, hTk, hfk⟩)
      clear HB2 HH2 HC2 HC3 HA3 HSG HAL hk hlow hTk hfk hF3 lt
      have lt := HB3.out.row.lt
      have c0 : w3.cell? ⟨ba, 0, none⟩ = some (.pointer (some ⟨pm, 0, none⟩)) := HB3.out.row.cell 0
      go_wp2_with fail
      refine (HCL.out w3 _ k HA.out.1 HH3.out.st.mem).mono ?_
      rintro _ w4 ⟨rfl, hM4, hC4⟩
      have HH4 := Lib.hid (HH3.out.wrote hM4 hC4)
      have HB4 := Lib.hid (HB3.out.chg hC4 (by simp; omega) (by simp; omega))
      have HC5 := Lib.hid (HC4.out.trans (hC4.weaken (T := [fp, bt, bw, q, tb, ba, bl]) (fun k hk => Or.inl (by simp at hk ⊢; omega))))
      clear hM4 hC4 HH3 HB3 HC4 HCL c0 lt
      have lt := HB4.out.row.lt
      have c2 : w4.cell? ⟨ba, 2, none⟩ = some (.pointer (some ⟨tb, 0, none⟩)) := HB4.out.row.cell 2
      go_wp2_with fail
      refine (HMP.out w4 k HA.out.1 HA.out.2.2.1 HA.out.2.2.2 HH4.out).mono ?_
      rintro _ w5 ⟨⟨t, ht1, ht2, ht3, ht4, rfl, hG5⟩ | ⟨hall5, rfl, hG5⟩, hC5⟩
      · have HH5 := Lib.hid hG5
        have HB5 := Lib.hid (HB4.out.chg hC5 (by simp; omega) (by simp; omega))
        have HC6 := Lib.hid (HC5.out.trans (hC5.weaken (T := [fp, bt, bw, q, tb, ba, bl]) (fun k hk => Or.inl (by simp at hk ⊢; omega))))
        have HTT := Lib.hid (⟨ht1, ht2, ht3, ht4⟩ : t < n ∧ (∀ i, i < t → 0 < upF (upF T k 1) k (upF T k 1 k + 1) i) ∧ upF (upF T k 1) k (upF T k 1 k + 1) t = 0 ∧ first ≤ t)
        clear hG5 hC5 HH4 HB4 HC5 HMP HFR c2 lt ht1 ht2 ht3 ht4
        have lt := HB5.out.row.lt
        have d6 : w5.cell? ⟨ba, 6, none⟩ = some (.int .i64 gvn) := HB5.out.row.cell 6
        have f6 := HB5.out.row.frozen 6
        go_wp2_with fail
        go_ret
        have hc7 : Chg [ba] w5 (w5.setCell ⟨ba, 6, none⟩ (.int .i64 (gvn + 1))) := (Chg.refl _ _).setCell (Or.inl (by simp)) _ _
        exact Or.inl ⟨k, t, HA.out.1, HA.out.2.1, HA.out.2.2.1, HA.out.2.2.2, HTT.out.1, HTT.out.2.1, HTT.out.2.2.1, HTT.out.2.2.2, rfl, ⟨baL_gv HB5.out.row (gvn + 1), HB5.out.wm.of_block (hc7.get HB5.out.wm.lt (by simp; exact fun e => HB5.out.ne e.symm)), HB5.out.ne⟩, HH5.out.apart hc7 (by simp; omega) (by simp; omega) (by simp; omega) (by simp; omega) (by simp; omega) (by simp; omega) (by simp; omega), HC6.out.trans (hc7.weaken (T := [fp, bt, bw, q, tb, ba, bl]) (fun k hk => Or.inl (by simp at hk ⊢; omega)))⟩
      · have HH5 := Lib.hid hG5
        have HB5 := Lib.hid (HB4.out.chg hC5 (by simp; omega) (by simp; omega))
        have HC6 := Lib.hid (HC5.out.trans (hC5.weaken (T := [fp, bt, bw, q, tb, ba, bl]) (fun k hk => Or.inl (by simp at hk ⊢; omega))))
        have HTT := Lib.hid hall5
        clear hG5 hC5 HH4 HB4 HC5 HMP c2 lt hall5
        have lt := HB5.out.row.lt
        go_wp2_with fail
        have HSG := Lib.hid (fun (w' : World) (h : Row w' ba (baL pm fp tb (o : Int) pages bv gvn tk) 100) => (⟨h.cell 1, h.cell 3⟩ : w'.cell? ⟨ba, 1, none⟩ = some (.pointer (some ⟨fp, 0, none⟩)) ∧ w'.cell? ⟨ba, 3, none⟩ = some (.int .i64 o)))
        go_region_held3 (fun w' => w'.cell? ⟨ba, 1, none⟩ = some (.pointer (some ⟨fp, 0, none⟩)) ∧ w'.cell? ⟨ba, 3, none⟩ = some (.int .i64 o)) (first
          | with_reducible exact HSG.out _ ((HB5.out.row.grows ((Grows.refl _).drew)).chg HC7.out (by simp; omega))
          | with_reducible exact HSG.out _ (HB5.out.row.grows ((Grows.refl _).drew))) (first
          | (go_at_call 42; refine (HFR.out _ k HA.out.1 HA.out.2.2.1 HA.out.2.2.2 (HH5.out.grows ((Grows.refl _).drew)).fr).mono ?_; rintro _ w6 ⟨rfl, hF6, hC7⟩
             have HF6 := Lib.hid hF6
             have HC7 := Lib.hid hC7
             clear hF6 hC7))
        all_goals
          have HH6 := Lib.hid ((HH5.out.grows ((Grows.refl _).drew)).framed HF6.out HC7.out)
          have HB6 := Lib.hid ((HB5.out.chg (Chg.of_grows (S := []) ((Grows.refl w5).drew)) (by simp) (by simp)).chg HC7.out (by simp; omega) (by simp; omega))
          have HC8 := Lib.hid ((HC6.out.drew).trans (HC7.out.weaken (T := [fp, bt, bw, q, tb, ba, bl]) (fun k hk => Or.inl (by simp at hk ⊢; omega))))
          clear HH5 HB5 HC6 HC7 HF6 HSG HFR lt
          go_wp2_with fail
          go_ret
          exact Or.inr (Or.inl ⟨k, HA.out.1, HA.out.2.2.1, HA.out.2.2.2, HTT.out, rfl, HB6.out, HH6.out, HC8.out⟩)
    · have HH3 := Lib.hid ((HH2.out.grows ((Grows.refl _).drew)).framed hF3 HC3.out)
      have HA := Lib.hid hall
      clear HB2 HH2 HC2 HC3 HA3 HSG HAL HMP HFR HCL hall hF3
      go_wp2_with fail
      go_ret
      exact Or.inr (Or.inr ⟨HA.out, rfl, HB3.out, HH3.out, HC4.out⟩)
end Go.Proofs.YtlchlklbjocliaaDoor
