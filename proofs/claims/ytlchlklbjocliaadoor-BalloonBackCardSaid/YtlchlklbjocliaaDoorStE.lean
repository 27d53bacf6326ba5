/- The package stage: Map where the lower table is to be made. -/
import Derived.Test.YtlchlklbjocliaaDoorStD
namespace Go.Proofs.YtlchlklbjocliaaDoor
open Go Go.RowKit
set_option linter.unusedSimpArgs false
set_option linter.unusedVariables false
set_option maxRecDepth 100000
theorem GuAt.mapped {w w' : World} {tb pm fp bl s s' q N o : Nat} {root : Int} {c : Nat → Int} {L L' : Int → Option Int} {B : Nat → Nat} {bt bw n first : Nat} {T O : Nat → Nat} {quo : Nat → Int} {low : Nat} (h : GuAt w tb pm fp bl s q N o root c L B bt bw n first T O quo low) (hm : LMap w' bl s' L') (hg : w.grownBy w' (some bl)) (hlow : ∀ k t, L' k = some t → 0 ≤ t ∧ t < 65536) : GuAt w' tb pm fp bl s' q N o root c L' B bt bw n first T O quo low := by
  have hc : Chg [bl] w w' := (Chg.refl _ _).grownBy hg (fun b hb => by injection hb with hb; subst hb; exact Or.inl (by simp))
  have s1 := h.st.sep
  have s2 := h.apt
  have s3 := h.apl
  have g1 := h.apg bl (Or.inr (Or.inr (Or.inr (Or.inr rfl))))
  exact ⟨⟨h.st.tab.chg hc (by simp; omega), hm, MemAt.chg h.st.mem hc (by simp; omega) (by simp; omega), h.st.wid.chgS hc (by simp; omega), h.st.pla.chgS hc (by simp; omega), hlow, h.st.sep⟩, h.fr.chg hc (by simp; omega), h.hnN, h.apq, h.apt, h.apl, h.apg⟩
/-- What take answers. -/
def TakeR (w' : World) (p q N fp bt bw n first low : Nat) (B T O : Nat → Nat) (quo : Nat → Int) (tv e : Int) : Prop :=
  (∃ k : Nat, k < n ∧ (∀ i, i < k → 0 < T i) ∧ T k = 0 ∧ first ≤ k ∧ tv = k ∧ e = 0 ∧ FrAt w' fp bt bw n first (upF T k 1) (upF O k 0) quo k ∧ Mem w' p q N (putB B (k * 256) (List.replicate 256 0))) ∨
  ((∀ i, i < n → 0 < T i) ∧ tv = 0 ∧ e = 20 ∧ FrAt w' fp bt bw n first T O quo n ∧ Mem w' p q N B)
theorem take_all {w : World} {p q N fp bt bw n first low : Nat} {B T O : Nat → Nat} {quo : Nat → Int} (hM : Mem w p q N B) (h : FrAt w fp bt bw n first T O quo low) (hnN : n ≤ N / 256) (hq : (ownC n T O 0 : Int) < quo 0) (hap : p ≠ fp ∧ p ≠ bt ∧ p ≠ bw ∧ q ≠ fp ∧ q ≠ bt ∧ q ≠ bw) :
    Calls Tryd.prog 52 #[.pointer (some ⟨p, 0, none⟩), .pointer (some ⟨fp, 0, none⟩)] w fun r w' => ∃ tv e : Int, r = .returned (.tuple #[.int .i64 tv, .int .i64 e]) ∧ TakeR w' p q N fp bt bw n first low B T O quo tv e ∧ Chg [fp, bt, bw, q] w w' := by
  refine (take_any hM h hnN hq hap).mono ?_
  rintro r w' ⟨⟨k, h1, h2, h3, h4, hr, h5, h6⟩ | ⟨h1, hr, h5, h6⟩, hc⟩
  · exact ⟨k, 0, hr, Or.inl ⟨k, h1, h2, h3, h4, rfl, rfl, h5, h6⟩, hc⟩
  · exact ⟨0, 20, hr, Or.inr ⟨h1, rfl, rfl, h5, h6⟩, hc⟩
set_option maxHeartbeats 4000000 in
theorem Map_new {w : World} {tb pm fp bl s q N o rt : Nat} {c : Nat → Int} {L : Int → Option Int} {B : Nat → Nat} {bt bw n first : Nat} {T O : Nat → Nat} {quo : Nat → Int} {low : Nat} (h : GuAt w tb pm fp bl s q N o (rt : Int) c L B bt bw n first T O quo low) {page j : Nat} (hp : page < 1024) (r x1 x2 : Bool) (hr : rightR r x1 x2 = true) (hj : j < n) (hg : gok (rdP N B L page) = false) (hT0 : 0 < T j) (hT : T j < 65536) (hO : O j = o) (hfj : first ≤ j) (hl : L ((page / 32 : Nat) : Int) = none) (hrt : rt * 256 + 256 ≤ N) (hck : 0 ≤ c (page / 32) ∧ c (page / 32) ≤ 1024) (hq0 : (ownC n (upF T j (T j + 1)) O 0 : Int) < quo 0) (hs : s < 1000000) (ho17 : o ≤ 16) :
    Calls Tryd.prog 16 #[.pointer (some ⟨tb, 0, none⟩), .int .i64 page, .int .i64 j, .agg #[.bool r, .bool x1, .bool x2]] w fun e w' =>
      ((∃ t : Nat, t < n ∧ (∀ i, i < t → 0 < upF T j (T j + 1) i) ∧ upF T j (T j + 1) t = 0 ∧ first ≤ t ∧ e = .returned (.int .i64 0) ∧ GuAt w' tb pm fp bl (s + 1) q N o rt (upC c (page / 32) (c (page / 32) + 1)) (imUpd L ((page / 32 : Nat) : Int) t) (putB (putB (putB B (t * 256) (List.replicate 256 0)) (rt * 256 + 8 * (page / 32)) (leB (packN true false false false false false false t) 8)) (t * 256 + 8 * (page % 32)) (leB (packN true r x1 x2 true false false j) 8)) bt bw n first (upF (upF T j (T j + 1)) t 1) (upF O t 0) quo t) ∨
       ((∀ i, i < n → 0 < upF T j (T j + 1) i) ∧ e = .returned (.int .i64 20) ∧ GuAt w' tb pm fp bl s q N o rt c L B bt bw n first T O quo n)) ∧ Chg [fp, bt, bw, q, tb, bl] w w' := by
  have HH := Lib.hid h
  have HLT := Lib.hid h.lts
  have hsr := fun W => srights_any r x1 x2 W
  rw [hr] at hsr
  have hip := fun W => isPage_ok hp W
  have hge := fun W (hg : Grows w W) => sget_any (h.st.grows hg) hp
  rw [hg, entA_no hg] at hge
  unfold zeroE at hge
  have HGE := Lib.hid hge
  have hjN := Nat.lt_of_lt_of_le hj h.hnN
  have q5 : decide (((N / 256 : Nat) : Int) ≤ (j : Int)) = false := decide_eq_false (by omega)
  have hfm := fun W (h : Mem W pm q N B) => frames_any h
  have hnN := h.hnN
  have hap := h.apq
  obtain ⟨NF, hNF⟩ : ∃ NF, NF = N / 256 := ⟨_, rfl⟩
  rw [← hNF] at hfm q5
  have HFM := Lib.hid hfm
  have hjF : j < NF := by omega
  clear hNF hfm
  have q6 : decide ((j : Int) < 0) = false := decide_eq_false (by omega)
  have HLO := Lib.hid (fun W C c' s' root' (h : StAt W tb pm fp bl s' q N (o : Int) root' c' L C) => (h.map.look_ok Tryd.underlying3 Tryd.underlying3 Tryd.underlying29 (zero_int' W) (K := ((page / 32 : Nat) : Int)) (wf_of (by omega) (by omega))).1)
  have HUP := Lib.hid (fun W C c' root' (t : Nat) (ht : t < 65536) (h : StAt W tb pm fp bl s q N (o : Int) root' c' L C) => h.map.update Tryd.underlying3 Tryd.underlying3 Tryd.underlying29 (by unfold maxLen; omega) (K := ((page / 32 : Nat) : Int)) (V := (t : Int)) (wf_of (by omega) (by omega)) (wf_of (by omega) (by omega)))
  rw [hl] at HLO HUP
  simp only [Option.getD_none, Option.isSome_none] at HLO HUP
  have HLK := Lib.hid (fun W C c' s' root' (t : Nat) (h : StAt W tb pm fp bl s' q N (o : Int) root' c' (imUpd L ((page / 32 : Nat) : Int) t) C) => h.look (k := page / 32) (by omega) (t := (t : Int)) (by unfold imUpd; rw [if_pos rfl]))
  have hlf := fun W => sleaf_any r x1 x2 j W
  unfold pgL at hlf
  have HLF := Lib.hid hlf
  have HPU := Lib.hid (fun (t : Nat) (ht : t < n) W C c' L' s' root' (h : StAt W tb pm fp bl s' q N (o : Int) root' c' L' C) => put_any h.tab h.mem h.wid h.pla (t := t) (pl := page % 32) (by have := h.mem.hn; omega) (by omega) (by omega) h.sep.1 true r x1 x2 true false false j)
  have HPR := Lib.hid (fun (t : Nat) W C c' L' s' root' (h : StAt W tb pm fp bl s' q N (o : Int) root' c' L' C) => put_any h.tab h.mem h.wid h.pla (t := rt) (pl := page / 32) (by have := h.mem.hn; omega) (by omega) (by omega) h.sep.1 true false false false false false false t)
  have how := fun W (h : FrAt W fp bt bw n first T O quo low) => Owner_some h hj hT0
  rw [hO] at how
  have hho := fun W (h : FrAt W fp bt bw n first T O quo low) => Hold_ok h hj hT hT0 hO
  have HOW := Lib.hid how
  have HHO := Lib.hid hho
  have HTK := Lib.hid (fun W (hM : Mem W pm q N B) (hF : FrAt W fp bt bw n first (upF T j (T j + 1)) O quo low) => take_all hM hF hnN hq0 hap)
  have hup : upF T j (T j + 1) j = T j + 1 := by unfold upF; rw [if_pos rfl]
  have hback : upF (upF T j (T j + 1)) j (upF T j (T j + 1) j - 1) = T := by
    funext i
    rw [hup]
    unfold upF
    by_cases hi : i = j
    · rw [if_pos hi, hi]; rfl
    · rw [if_neg hi, if_neg hi]
  have HFR := Lib.hid (show ∀ W low', FrAt W fp bt bw n first (upF T j (T j + 1)) O quo low' → Calls Tryd.prog 42 #[.pointer (some ⟨fp, 0, none⟩), .int .i64 j, .int .i64 o] W fun r w' => r = .returned (.tuple #[.bool false, .int .i64 0]) ∧ FrAt w' fp bt bw n first T O quo low' ∧ Chg [fp, bt, bw] W w' from fun W low' hF => by have := Free_more hF hj (by rw [hup]; omega) hO hfj; rw [hback] at this; exact this)
  have HKQ := Lib.hid (show page / 32 < 32 by omega)
  have w1 : IntKind.i64.wrap (c (page / 32) + 1) = c (page / 32) + 1 := by rw [IntKind.wrap_i64]; omega
  have HN64 := Lib.hid (show n ≤ 65536 from h.fr.n2)
  have HLW := Lib.hid h.st.low
  obtain ⟨q1, q2, q3, q4⟩ := pageQR hp
  generalize page / 32 = kq at *
  generalize page % 32 = pr at *
  clear h hr hg hge hp hj hl hlf how hho hO hT hT0 hck hjN hup hback hs hq0 hrt hfj ho17 hnN hap
  go_enter Tryd.func16, Tryd.ntmps16
  go_wp2_with fail
  obtain ⟨b7, hb7⟩ : ∃ b, b = w.heap.size := ⟨_, rfl⟩
  obtain ⟨W1, hW1⟩ : ∃ W1, W1 = w.alloc (Obj.cells #[.bool r, .bool x1, .bool x2] 23) := ⟨_, rfl⟩
  rw [← hW1, ← hb7]
  have hr7 : Row W1 b7 #[.bool r, .bool x1, .bool x2] 23 := by rw [hW1]; exact Row.new_at _ _ _ hb7
  have hg1 : Grows w W1 := by rw [hW1]; exact (Grows.refl _).alloc _
  have HB7 := Lib.hid (show w.heap.size ≤ b7 by omega)
  have HH1 := Lib.hid (HH.out.grows hg1)
  clear hW1 hb7
  refine (usable_open HH1.out.st.tab).mono ?_
  rintro _ _ ⟨rfl, hw⟩
  rw [hw]
  clear hw
  have l7 := hr7.lt
  have y0 : W1.cell? ⟨b7, 0, none⟩ = some (.bool r) := hr7.cell 0
  have y1 : W1.cell? ⟨b7, 1, none⟩ = some (.bool x1) := hr7.cell 1
  have y2 : W1.cell? ⟨b7, 2, none⟩ = some (.bool x2) := hr7.cell 2
  go_wp2_with fail
  refine (hip _).mono ?_
  rintro _ _ ⟨rfl, hw⟩
  rw [hw]
  clear hw
  go_wp2_with fail
  refine (hsr _).mono ?_
  rintro _ w2 ⟨rfl, hg2⟩
  have HH2 := Lib.hid (HH1.out.grows hg2)
  have HR72 := Lib.hid (hr7.grows hg2)
  have HG2 := Lib.hid (hg1.trans hg2)
  obtain ⟨c0, c1, c2, _, _, c5, lt⟩ := HH2.out.st.tab.cells
  clear hg1 hg2 hr7 HH1 HH hsr hip y0 y1 y2 l7
  go_wp2_with fail
  refine (HFM.out _ HH2.out.st.mem).mono ?_
  rintro _ _ ⟨rfl, hw⟩
  rw [hw]
  clear hw
  go_wp2_with fail
  refine (HGE.out _ HG2.out).mono ?_
  rintro _ w3 ⟨rfl, hg3⟩
  have HH3 := Lib.hid (HH2.out.grows hg3)
  have HR73 := Lib.hid (HR72.out.grows hg3)
  have HG3 := Lib.hid (HG2.out.trans hg3)
  clear hg3 HR72 HG2 HGE c0 c1 c2 c5 lt HH2
  go_upto_region 9 with fail
  obtain ⟨W4, hW4⟩ : ∃ W4, W4 = w3.alloc (Obj.cells #[.bool false, .bool false, .bool false, .bool false, .bool false, .bool false, .bool false, .int .i64 0] 111) := ⟨_, rfl⟩
  rw [← hW4]
  have hg4 : Grows w3 W4 := by rw [hW4]; exact (Grows.refl _).alloc _
  have HH4 := Lib.hid (HH3.out.grows hg4)
  have HR74 := Lib.hid (HR73.out.grows hg4)
  have HG4 := Lib.hid (HG3.out.trans hg4)
  clear hW4 hg4 HH3 HR73 HG3
  obtain ⟨_, c1, c2, _, _, _, lt⟩ := HH4.out.st.tab.cells
  have how4 := HOW.out _ HH4.out.fr
  go_wp2_with fail
  refine how4.mono ?_
  clear how4 c1 c2 lt HOW q5 q6
  rintro _ w5 ⟨rfl, hg5⟩
  have HH5 := Lib.hid (HH4.out.grows hg5)
  have HR75 := Lib.hid (HR74.out.grows hg5)
  have HG5 := Lib.hid (HG4.out.trans hg5)
  clear hg5 HH4 HR74 HG4
  obtain ⟨_, _, c2, _, _, _, lt⟩ := HH5.out.st.tab.cells
  go_wp2_with fail
  clear c2
  have HSG := Lib.hid (fun (w' : World) (h : TbAt w' tb pm fp bl (o : Int) rt true c) => (⟨h.cells.2.1, h.cells.2.2.1⟩ : w'.cell? ⟨tb, 1, none⟩ = some (.pointer (some ⟨fp, 0, none⟩)) ∧ w'.cell? ⟨tb, 2, none⟩ = some (.int .i64 o)))
  go_region_held3 (fun w' => w'.cell? ⟨tb, 1, none⟩ = some (.pointer (some ⟨fp, 0, none⟩)) ∧ w'.cell? ⟨tb, 2, none⟩ = some (.int .i64 o)) (first
    | with_reducible exact HSG.out _ (((HH5.out.grows ((Grows.refl _).drew)).framed HF6.out HC6.out).st.tab)
    | with_reducible exact HSG.out _ (HH5.out.grows ((Grows.refl _).drew)).st.tab) (first
    | (go_at_call 41; refine (HHO.out _ (HH5.out.grows ((Grows.refl _).drew)).fr).mono ?_; rintro _ w6 ⟨rfl, hF6, hC6⟩
       have HF6 := Lib.hid hF6
       have HC6 := Lib.hid hC6
       clear hF6 hC6))
  all_goals
    have HH6 := Lib.hid ((HH5.out.grows ((Grows.refl _).drew)).framed HF6.out HC6.out)
    have hb : b7 ≠ fp ∧ b7 ≠ bt ∧ b7 ≠ bw ∧ b7 ≠ q ∧ b7 ≠ tb ∧ b7 ≠ bl := by have := HLT.out; have := HB7.out; omega
    have HR76 := Lib.hid ((HR75.out.grows ((Grows.refl _).drew)).chg HC6.out (by simp; omega))
    have HC := Lib.hid ((Chg.of_grows (S := [fp, bt, bw]) (HG5.out.drew)).trans HC6.out)
    clear HH5 HR75 HG5 HF6 HC6 HSG HHO lt
    have hlo6 := HLO.out w6 _ _ _ _ HH6.out.st
    obtain ⟨_, _, _, _, _, c5, lt⟩ := HH6.out.st.tab.cells
    go_wp2_with fail
    clear hlo6 c5
    have hapt := HH6.out.apt
    have hsep := HH6.out.st.sep
    have HSG := Lib.hid (fun (w' : World) (h : TbAt w' tb pm fp bl (o : Int) rt true c) => (⟨h.cells.1, h.cells.2.1⟩ : w'.cell? ⟨tb, 0, none⟩ = some (.pointer (some ⟨pm, 0, none⟩)) ∧ w'.cell? ⟨tb, 1, none⟩ = some (.pointer (some ⟨fp, 0, none⟩))))
    go_region_held3 (fun w' => w'.cell? ⟨tb, 0, none⟩ = some (.pointer (some ⟨pm, 0, none⟩)) ∧ w'.cell? ⟨tb, 1, none⟩ = some (.pointer (some ⟨fp, 0, none⟩))) (first
      | with_reducible exact HSG.out _ ((HH6.out.grows ((Grows.refl _).drew)).st.tab.chg HC7.out (by simp; omega))
      | with_reducible exact HSG.out _ (HH6.out.grows ((Grows.refl _).drew)).st.tab) (first
      | (go_at_call 52; refine (HTK.out _ (HH6.out.grows ((Grows.refl _).drew)).st.mem (HH6.out.grows ((Grows.refl _).drew)).fr).mono ?_; rintro _ w7 ⟨tv, ee, rfl, hR7, hC7⟩
         have HT7 := Lib.hid hR7
         have HC7 := Lib.hid hC7
         clear hR7 hC7))
    all_goals
      have HR77 := Lib.hid ((HR76.out.grows ((Grows.refl _).drew)).chg HC7.out (by simp; omega))
      have HCC := Lib.hid (((HC.out.weaken (T := [fp, bt, bw, q, tb, bl]) (fun k hk => Or.inl (by simp at hk ⊢; omega))).drew).trans (HC7.out.weaken (T := [fp, bt, bw, q, tb, bl]) (fun k hk => Or.inl (by simp at hk ⊢; omega))))
      rcases HT7.out with ⟨t, ht, hlow, hTt, hft, rfl, rfl, hF7, hM7⟩ | ⟨hall, rfl, rfl, hF7, hM7⟩
      · have HH7 := Lib.hid ((HH6.out.grows ((Grows.refl _).drew)).both hF7 hM7 HC7.out)
        have HA := Lib.hid (show t < n ∧ (∀ i, i < t → 0 < upF T j (T j + 1) i) ∧ upF T j (T j + 1) t = 0 ∧ first ≤ t from ⟨ht, hlow, hTt, hft⟩)
        clear HH6 HR76 HC HC7 HT7 HSG HTK HFR ht hlow hTt hft hF7 hM7 lt HLO
        obtain ⟨w8, hrun, hm8, hg8⟩ := HUP.out w7 _ _ _ t (by have := HA.out; have := HN64.out; omega) HH7.out.st
        simp only [Bool.false_eq_true, if_false] at hm8
        have HH8 := Lib.hid (HH7.out.mapped hm8 hg8 (fun k' t' hk => by
          unfold imUpd at hk
          split at hk
          · injection hk with hk; have := HA.out; have := HN64.out; omega
          · exact HLW.out _ _ hk))
        have hc78 : Chg [bl] w7 w8 := (Chg.refl _ _).grownBy hg8 (fun b hb => by injection hb with hb; subst hb; exact Or.inl (by simp))
        have HR78 := Lib.hid (HR77.out.chg hc78 (by simp; omega))
        have HC8 := Lib.hid (HCC.out.trans (hc78.weaken (T := [fp, bt, bw, q, tb, bl]) (fun k hk => Or.inl (by simp at hk ⊢; omega))))
        obtain ⟨_, _, _, _, _, c5, lt⟩ := HH7.out.st.tab.cells
        obtain ⟨d0, d1, d2, d3, d4, d5, dt⟩ := HH8.out.st.tab.cells
        clear hm8 hg8 hc78 HR77 HCC HH7 HUP
        go_wp2_with fail
        clear hrun c5 lt d0 d1 d2 d3 d4 d5 dt
        refine (HPR.out t w8 _ _ _ _ _ HH8.out.st).mono ?_
        rintro _ w9 ⟨⟨vv, rfl⟩, hM9, hC9⟩
        have HH9 := Lib.hid (HH8.out.wrote hM9 hC9)
        have HR79 := Lib.hid (HR78.out.chg hC9 (by simp; omega))
        have HC9 := Lib.hid (HC8.out.trans (hC9.weaken (T := [fp, bt, bw, q, tb, bl]) (fun k hk => Or.inl (by simp at hk ⊢; omega))))
        clear hM9 hC9 HH8 HR78 HC8 HPR
        have l7 := HR79.out.lt
        have lt := HH9.out.st.tab.row.lt
        go_wp2_with fail
        have HSL := Lib.hid (fun (w' : World) (C : Nat → Nat) (s' : Nat) (hs : StAt w' tb pm fp bl s' q N (o : Int) rt c (imUpd L (kq : Int) t) C) (h7 : Row w' b7 #[.bool r, .bool x1, .bool x2] 23) => (⟨hs.tab.cells.2.2.2.2.2.1, HLK.out w' C c s' rt t hs, h7.cell 0, h7.cell 1, h7.cell 2⟩ : w'.cell? ⟨tb, 5, none⟩ = some (.map (some bl)) ∧ (Instr.lookup 29 (.map (some bl)) (.int .i64 kq) false).run Tryd.prog w' = .ok (.int .i64 t) w' ∧ w'.cell? ⟨b7, 0, none⟩ = some (.bool r) ∧ w'.cell? ⟨b7, 1, none⟩ = some (.bool x1) ∧ w'.cell? ⟨b7, 2, none⟩ = some (.bool x2)))
        go_region_held3 (fun w' => w'.cell? ⟨tb, 5, none⟩ = some (.map (some bl)) ∧ (Instr.lookup 29 (.map (some bl)) (.int .i64 kq) false).run Tryd.prog w' = .ok (.int .i64 t) w' ∧ w'.cell? ⟨b7, 0, none⟩ = some (.bool r) ∧ w'.cell? ⟨b7, 1, none⟩ = some (.bool x1) ∧ w'.cell? ⟨b7, 2, none⟩ = some (.bool x2)) (first
          | with_reducible exact HSL.out _ _ _ ((HH9.out.st.grows HG10.out).wrote HM11.out HC11.out) ((HR79.out.grows HG10.out).chg HC11.out (by simp; omega))
          | with_reducible exact HSL.out _ _ _ (HH9.out.st.grows HG10.out) (HR79.out.grows HG10.out)
          | with_reducible exact HSL.out _ _ _ (HH9.out.st.grows ((Grows.refl _).drew)) (HR79.out.grows ((Grows.refl _).drew))) (first
          | (go_at_call 53; refine (HLF.out _).mono ?_; rintro _ w10 ⟨rfl, hg10⟩
             have HG10 : Hid (Grows w9 w10) := Lib.hid (((Grows.refl _).drew).trans hg10)
             clear hg10)
          | (go_at_call 45; refine (HPU.out t HA.out.1 _ _ _ _ _ _ (HH9.out.st.grows HG10.out)).mono ?_; rintro _ w11 ⟨⟨vv2, rfl⟩, hM11, hC11⟩
             have HM11 := Lib.hid hM11
             have HC11 := Lib.hid hC11
             clear hM11 hC11))
        all_goals
          have HH11 := Lib.hid ((HH9.out.grows HG10.out).wrote HM11.out HC11.out)
          have HC12 := Lib.hid ((HC9.out.trans (Chg.of_grows HG10.out)).trans (HC11.out.weaken (T := [fp, bt, bw, q, tb, bl]) (fun k hk => Or.inl (by simp at hk ⊢; omega))))
          have cc := HH11.out.st.tab.count HKQ.out
          have lt11 := HH11.out.st.tab.row.lt
          have fz := HH11.out.st.tab.row.frozen (6 + kq)
          have kl : kq < 32 := HKQ.out
          clear HH9 HR79 HC9 HG10 HM11 HC11 HSL HLK HPU HLF lt l7
          go_wp2_with fail
          go_region
          all_goals
            go_wp2_with fail
            go_ret
            exact ⟨Or.inl ⟨t, HA.out.1, HA.out.2.1, HA.out.2.2.1, HA.out.2.2.2, rfl, (HH11.out.counted HKQ.out _).grows ((Grows.refl _).drew)⟩, (HC12.out.setCell (Or.inl (by simp)) _ _).drew⟩
      · have HH7 := Lib.hid ((HH6.out.grows ((Grows.refl _).drew)).both hF7 hM7 HC7.out)
        have HA := Lib.hid hall
        clear HH6 HR76 HC HC7 HT7 HSG HTK hall hF7 hM7 lt HLO HPU HPR HLK HUP HR77
        have lt := HH7.out.st.tab.row.lt
        go_wp2_with fail
        have HSG := Lib.hid (fun (w' : World) (h : TbAt w' tb pm fp bl (o : Int) rt true c) => (⟨h.cells.2.1, h.cells.2.2.1⟩ : w'.cell? ⟨tb, 1, none⟩ = some (.pointer (some ⟨fp, 0, none⟩)) ∧ w'.cell? ⟨tb, 2, none⟩ = some (.int .i64 o)))
        go_region_held3 (fun w' => w'.cell? ⟨tb, 1, none⟩ = some (.pointer (some ⟨fp, 0, none⟩)) ∧ w'.cell? ⟨tb, 2, none⟩ = some (.int .i64 o)) (first
          | with_reducible exact HSG.out _ (((HH7.out.grows ((Grows.refl _).drew)).framed HF8.out HC8.out).st.tab)
          | with_reducible exact HSG.out _ (HH7.out.grows ((Grows.refl _).drew)).st.tab) (first
          | (go_at_call 42; refine (HFR.out _ _ (HH7.out.grows ((Grows.refl _).drew)).fr).mono ?_; rintro _ w8 ⟨rfl, hF8, hC8⟩
             have HF8 := Lib.hid hF8
             have HC8 := Lib.hid hC8
             clear hF8 hC8))
        all_goals
          have HH8 := Lib.hid ((HH7.out.grows ((Grows.refl _).drew)).framed HF8.out HC8.out)
          have HC9 := Lib.hid ((HCC.out.drew).trans (HC8.out.weaken (T := [fp, bt, bw, q, tb, bl]) (fun k hk => Or.inl (by simp at hk ⊢; omega))))
          clear HSG HFR
          go_wp2_with fail
          go_ret
          exact ⟨Or.inr ⟨HA.out, rfl, HH8.out⟩, HC9.out⟩
end Go.Proofs.YtlchlklbjocliaaDoor
