/- Texts of one kind, laid together. -/
import Derived.Test.YtlchlklbjocliaaDoorME
import Derived.Test.YtlchlklbjocliaaDoorMC
import Derived.Test.YtlchlklbjocliaaDoorMC
/- The package stage with frames: the state of a guest's tables; Map. -/
namespace Go.Proofs.YtlchlklbjocliaaDoor
open Go Go.RowKit
set_option linter.unusedSimpArgs false
set_option linter.unusedVariables false
set_option maxRecDepth 100000
def upC (c : Nat → Int) (k : Nat) (v : Int) : Nat → Int := fun i => if i = k then v else c i
theorem tbL_set (pm pf : Nat) (g root : Int) (op : Bool) (bl : Nat) (c : Nat → Int) (v : Int) : ∀ k, k < 32 → (tbL pm pf g root op bl c).set! (6 + k) (.int .i64 v) = tbL pm pf g root op bl (upC c k v)
  | 0, _ => rfl
  | 1, _ => rfl
  | 2, _ => rfl
  | 3, _ => rfl
  | 4, _ => rfl
  | 5, _ => rfl
  | 6, _ => rfl
  | 7, _ => rfl
  | 8, _ => rfl
  | 9, _ => rfl
  | 10, _ => rfl
  | 11, _ => rfl
  | 12, _ => rfl
  | 13, _ => rfl
  | 14, _ => rfl
  | 15, _ => rfl
  | 16, _ => rfl
  | 17, _ => rfl
  | 18, _ => rfl
  | 19, _ => rfl
  | 20, _ => rfl
  | 21, _ => rfl
  | 22, _ => rfl
  | 23, _ => rfl
  | 24, _ => rfl
  | 25, _ => rfl
  | 26, _ => rfl
  | 27, _ => rfl
  | 28, _ => rfl
  | 29, _ => rfl
  | 30, _ => rfl
  | 31, _ => rfl
  | k + 32, h => by omega
theorem tbL_get (pm pf : Nat) (g root : Int) (op : Bool) (bl : Nat) (c : Nat → Int) : ∀ k, k < 32 → (tbL pm pf g root op bl c)[6 + k]? = some (.int .i64 (c k))
  | 0, _ => rfl
  | 1, _ => rfl
  | 2, _ => rfl
  | 3, _ => rfl
  | 4, _ => rfl
  | 5, _ => rfl
  | 6, _ => rfl
  | 7, _ => rfl
  | 8, _ => rfl
  | 9, _ => rfl
  | 10, _ => rfl
  | 11, _ => rfl
  | 12, _ => rfl
  | 13, _ => rfl
  | 14, _ => rfl
  | 15, _ => rfl
  | 16, _ => rfl
  | 17, _ => rfl
  | 18, _ => rfl
  | 19, _ => rfl
  | 20, _ => rfl
  | 21, _ => rfl
  | 22, _ => rfl
  | 23, _ => rfl
  | 24, _ => rfl
  | 25, _ => rfl
  | 26, _ => rfl
  | 27, _ => rfl
  | 28, _ => rfl
  | 29, _ => rfl
  | 30, _ => rfl
  | 31, _ => rfl
  | k + 32, h => by omega
theorem TbAt.count {w : World} {tb pm pf bl : Nat} {g root : Int} {op : Bool} {c : Nat → Int} (h : TbAt w tb pm pf bl g root op c) {k : Nat} (hk : k < 32) : w.cell? ⟨tb, 6 + k, none⟩ = some (.int .i64 (c k)) := by
  rw [h.row.cell]; exact tbL_get pm pf g root op bl c k hk
theorem TbAt.setCount {w : World} {tb pm pf bl : Nat} {g root : Int} {op : Bool} {c : Nat → Int} (h : TbAt w tb pm pf bl g root op c) {k : Nat} (hk : k < 32) (v : Int) : TbAt (w.setCell ⟨tb, 6 + k, none⟩ (.int .i64 v)) tb pm pf bl g root op (upC c k v) := by
  have h1 := row_setCell h.row (i := 6 + k) (by show 6 + k < 38; omega) (.int .i64 v)
  refine ⟨?_⟩
  have hsz : 6 + k < (tbL pm pf g root op bl c).size := by show 6 + k < 38; omega
  rw [← tbL_set pm pf g root op bl c v k hk, Array.set!_eq_setIfInBounds, Array.setIfInBounds_def, dif_pos hsz]
  exact h1
/-- A guest's tables, open, with their memory and their frames. -/
structure GuAt (w : World) (tb pm fp bl s q N o : Nat) (root : Int) (c : Nat → Int) (L : Int → Option Int) (B : Nat → Nat) (bt bw n first : Nat) (T O : Nat → Nat) (quo : Nat → Int) (low : Nat) : Prop where
  st : StAt w tb pm fp bl s q N (o : Int) root c L B
  fr : FrAt w fp bt bw n first T O quo low
  hnN : n ≤ N / 256
  apq : pm ≠ fp ∧ pm ≠ bt ∧ pm ≠ bw ∧ q ≠ fp ∧ q ≠ bt ∧ q ≠ bw
  apt : tb ≠ fp ∧ tb ≠ bt ∧ tb ≠ bw ∧ tb ≠ pm ∧ tb ≠ bl
  apl : bl ≠ fp ∧ bl ≠ bt ∧ bl ≠ bw ∧ bl ≠ pm
  apg : ∀ b, b = fp ∨ b = bt ∨ b = bw ∨ b = tb ∨ b = bl → b ≠ 1 ∧ b ≠ 0
theorem Widths.chgS {S : List Nat} {w w' : World} (h : Widths w) (hc : Chg S w w') (hq : 1 ∉ S) : Widths w' :=
  ⟨hc.lt h.1, fun i => by rw [hc.cell h.1 hq]; exact h.2 i⟩
theorem Places.chgS {S : List Nat} {w w' : World} (h : Places w) (hc : Chg S w w') (hq : 0 ∉ S) : Places w' :=
  ⟨hc.lt h.1, fun i => by rw [hc.cell h.1 hq]; exact h.2 i⟩
theorem GuAt.grows {w w' : World} {tb pm fp bl s q N o : Nat} {root : Int} {c : Nat → Int} {L : Int → Option Int} {B : Nat → Nat} {bt bw n first : Nat} {T O : Nat → Nat} {quo : Nat → Int} {low : Nat} (h : GuAt w tb pm fp bl s q N o root c L B bt bw n first T O quo low) (hg : Grows w w') : GuAt w' tb pm fp bl s q N o root c L B bt bw n first T O quo low :=
  ⟨h.st.grows hg, h.fr.grows hg, h.hnN, h.apq, h.apt, h.apl, h.apg⟩
/-- The frames, or the memory, or both were changed. -/
theorem GuAt.both {w w' : World} {tb pm fp bl s q N o : Nat} {root : Int} {c : Nat → Int} {L : Int → Option Int} {B C : Nat → Nat} {bt bw n first : Nat} {T O T' O' : Nat → Nat} {quo : Nat → Int} {low low' : Nat} (h : GuAt w tb pm fp bl s q N o root c L B bt bw n first T O quo low) (hf : FrAt w' fp bt bw n first T' O' quo low') (hm : Mem w' pm q N C) (hc : Chg [fp, bt, bw, q] w w') : GuAt w' tb pm fp bl s q N o root c L C bt bw n first T' O' quo low' := by
  have s1 := h.st.sep
  have s2 := h.apt
  have s3 := h.apl
  have g1 := h.apg fp (Or.inl rfl)
  have g2 := h.apg bt (Or.inr (Or.inl rfl))
  have g3 := h.apg bw (Or.inr (Or.inr (Or.inl rfl)))
  exact ⟨⟨h.st.tab.chg hc (by simp; omega), h.st.map.of_block (hc.get h.st.map.lt (by simp; omega)), hm, h.st.wid.chgS hc (by simp; omega), h.st.pla.chgS hc (by simp; omega), h.st.low, h.st.sep⟩, hf, h.hnN, h.apq, h.apt, h.apl, h.apg⟩
theorem GuAt.framed {w w' : World} {tb pm fp bl s q N o : Nat} {root : Int} {c : Nat → Int} {L : Int → Option Int} {B : Nat → Nat} {bt bw n first : Nat} {T O T' O' : Nat → Nat} {quo : Nat → Int} {low low' : Nat} (h : GuAt w tb pm fp bl s q N o root c L B bt bw n first T O quo low) (hf : FrAt w' fp bt bw n first T' O' quo low') (hc : Chg [fp, bt, bw] w w') : GuAt w' tb pm fp bl s q N o root c L B bt bw n first T' O' quo low' :=
  h.both hf (MemAt.chg h.st.mem hc (by have := h.apq; simp; omega) (by have := h.apq; simp; omega)) (hc.weaken (fun k hk => Or.inl (by simp at hk ⊢; omega)))
theorem GuAt.wrote {w w' : World} {tb pm fp bl s q N o : Nat} {root : Int} {c : Nat → Int} {L : Int → Option Int} {B C : Nat → Nat} {bt bw n first : Nat} {T O : Nat → Nat} {quo : Nat → Int} {low : Nat} (h : GuAt w tb pm fp bl s q N o root c L B bt bw n first T O quo low) (hm : Mem w' pm q N C) (hc : Chg [q] w w') : GuAt w' tb pm fp bl s q N o root c L C bt bw n first T O quo low :=
  h.both (h.fr.chg hc (by have := h.apq; simp; omega)) hm (hc.weaken (by simp))
theorem GuAt.lts {w : World} {tb pm fp bl s q N o : Nat} {root : Int} {c : Nat → Int} {L : Int → Option Int} {B : Nat → Nat} {bt bw n first : Nat} {T O : Nat → Nat} {quo : Nat → Int} {low : Nat} (h : GuAt w tb pm fp bl s q N o root c L B bt bw n first T O quo low) : fp < w.heap.size ∧ bt < w.heap.size ∧ bw < w.heap.size ∧ q < w.heap.size ∧ tb < w.heap.size ∧ bl < w.heap.size := by
  obtain ⟨s', g, _, g2, _⟩ := h.fr.wh
  exact ⟨h.fr.row.lt, h.fr.tm.lt, g2.lt, h.st.mem.qlt, h.st.tab.row.lt, h.st.map.lt⟩
theorem GuAt.counted {w : World} {tb pm fp bl s q N o : Nat} {root : Int} {c : Nat → Int} {L : Int → Option Int} {B : Nat → Nat} {bt bw n first : Nat} {T O : Nat → Nat} {quo : Nat → Int} {low : Nat} (h : GuAt w tb pm fp bl s q N o root c L B bt bw n first T O quo low) {k : Nat} (hk : k < 32) (v : Int) : GuAt (w.setCell ⟨tb, 6 + k, none⟩ (.int .i64 v)) tb pm fp bl s q N o root (upC c k v) L B bt bw n first T O quo low := by
  have hc : Chg [tb] w (w.setCell ⟨tb, 6 + k, none⟩ (.int .i64 v)) := (Chg.refl _ _).setCell (Or.inl (by simp)) _ _
  have s1 := h.st.sep
  have s2 := h.apt
  have g1 := h.apg tb (Or.inr (Or.inr (Or.inr (Or.inl rfl))))
  exact ⟨⟨h.st.tab.setCount hk v, h.st.map.of_block (hc.get h.st.map.lt (by simp; omega)), MemAt.chg h.st.mem hc (by simp; omega) (by simp; omega), h.st.wid.chgS hc (by simp; omega), h.st.pla.chgS hc (by simp; omega), h.st.low, h.st.sep⟩, h.fr.chg hc (by simp; omega), h.hnN, h.apq, h.apt, h.apl, h.apg⟩
set_option maxHeartbeats 4000000 in
theorem Map_there {w : World} {tb pm fp bl s q N o : Nat} {root : Int} {c : Nat → Int} {L : Int → Option Int} {B : Nat → Nat} {bt bw n first : Nat} {T O : Nat → Nat} {quo : Nat → Int} {low : Nat} (h : GuAt w tb pm fp bl s q N o root c L B bt bw n first T O quo low) {page j : Nat} (hp : page < 1024) (r x1 x2 : Bool) (hr : rightR r x1 x2 = true) (hj : j < N / 256) (hg : gok (rdP N B L page) = true) :
    Calls Tryd.prog 16 #[.pointer (some ⟨tb, 0, none⟩), .int .i64 page, .int .i64 j, .agg #[.bool r, .bool x1, .bool x2]] w fun e w' => e = .returned (.int .i64 13) ∧ Grows w w' := by
  have HH := Lib.hid h
  have hsr := fun W => srights_any r x1 x2 W
  rw [hr] at hsr
  have hip := fun W => isPage_ok hp W
  have hge := fun W (hg : Grows w W) => sget_any (h.st.grows hg) hp
  rw [hg] at hge
  unfold entA at hge
  have HGE := Lib.hid hge
  have q5 : decide (((N / 256 : Nat) : Int) ≤ (j : Int)) = false := decide_eq_false (by omega)
  have hfm := fun W (h : Mem W pm q N B) => frames_any h
  obtain ⟨NF, hNF⟩ : ∃ NF, NF = N / 256 := ⟨_, rfl⟩
  rw [← hNF] at hfm q5
  have HFM := Lib.hid hfm
  have hjF : j < NF := by omega
  clear hNF hfm
  have q6 : decide ((j : Int) < 0) = false := decide_eq_false (by omega)
  clear h hr hg hge hp hj
  go_enter Tryd.func16, Tryd.ntmps16
  go_wp2_with fail
  obtain ⟨b7, hb7⟩ : ∃ b, b = w.heap.size := ⟨_, rfl⟩
  obtain ⟨W1, hW1⟩ : ∃ W1, W1 = w.alloc (Obj.cells #[.bool r, .bool x1, .bool x2] 23) := ⟨_, rfl⟩
  rw [← hW1, ← hb7]
  have hr7 : Row W1 b7 #[.bool r, .bool x1, .bool x2] 23 := by rw [hW1]; exact Row.new_at _ _ _ hb7
  have hg1 : Grows w W1 := by rw [hW1]; exact (Grows.refl _).alloc _
  have HB7 := Lib.hid (show w.heap.size ≤ b7 by omega)
  have HH1 := Lib.hid (HH.out.grows hg1)
  clear hW1 hb7
  refine (usable_open HH1.out.st.tab).mono ?_
  rintro _ _ ⟨rfl, hw⟩
  rw [hw]
  clear hw
  have l7 := hr7.lt
  have y0 : W1.cell? ⟨b7, 0, none⟩ = some (.bool r) := hr7.cell 0
  have y1 : W1.cell? ⟨b7, 1, none⟩ = some (.bool x1) := hr7.cell 1
  have y2 : W1.cell? ⟨b7, 2, none⟩ = some (.bool x2) := hr7.cell 2
  go_wp2_with fail
  refine (hip _).mono ?_
  rintro _ _ ⟨rfl, hw⟩
  rw [hw]
  clear hw
  go_wp2_with fail
  refine (hsr _).mono ?_
  rintro _ w2 ⟨rfl, hg2⟩
  have HH2 := Lib.hid (HH1.out.grows hg2)
  have HR72 := Lib.hid (hr7.grows hg2)
  have HG2 := Lib.hid (hg1.trans hg2)
  obtain ⟨c0, c1, c2, _, _, c5, lt⟩ := HH2.out.st.tab.cells
  clear hg1 hg2 hr7 HH1 HH hsr hip y0 y1 y2 l7
  go_wp2_with fail
  refine (HFM.out _ HH2.out.st.mem).mono ?_
  rintro _ _ ⟨rfl, hw⟩
  rw [hw]
  clear hw
  go_wp2_with fail
  refine (HGE.out _ HG2.out).mono ?_
  rintro _ w3 ⟨rfl, hg3⟩
  have HH3 := Lib.hid (HH2.out.grows hg3)
  have HR73 := Lib.hid (HR72.out.grows hg3)
  have HG3 := Lib.hid (HG2.out.trans hg3)
  clear hg3 HR72 HG2 HGE c0 c1 c2 c5 lt HH2
  go_wp2_with fail
  go_ret
  exact ⟨rfl, HG3.out.alloc _⟩
set_option maxHeartbeats 4000000 in
theorem Map_low {w : World} {tb pm fp bl s q N o : Nat} {root : Int} {c : Nat → Int} {L : Int → Option Int} {B : Nat → Nat} {bt bw n first : Nat} {T O : Nat → Nat} {quo : Nat → Int} {low : Nat} (h : GuAt w tb pm fp bl s q N o root c L B bt bw n first T O quo low) {page j t : Nat} (hp : page < 1024) (r x1 x2 : Bool) (hr : rightR r x1 x2 = true) (hj : j < n) (hg : gok (rdP N B L page) = false) (hT0 : 0 < T j) (hT : T j < 65536) (hO : O j = o) (hl : L ((page / 32 : Nat) : Int) = some (t : Int)) (hin : t * 256 + 256 ≤ N) (hck : 0 ≤ c (page / 32) ∧ c (page / 32) ≤ 1024) :
    Calls Tryd.prog 16 #[.pointer (some ⟨tb, 0, none⟩), .int .i64 page, .int .i64 j, .agg #[.bool r, .bool x1, .bool x2]] w fun e w' => e = .returned (.int .i64 0) ∧ GuAt w' tb pm fp bl s q N o root (upC c (page / 32) (c (page / 32) + 1)) L (putB B (t * 256 + 8 * (page % 32)) (leB (packN true r x1 x2 true false false j) 8)) bt bw n first (upF T j (T j + 1)) O quo low ∧ Chg [fp, bt, bw, q, tb] w w' := by
  have HH := Lib.hid h
  have HLT := Lib.hid h.lts
  have hsr := fun W => srights_any r x1 x2 W
  rw [hr] at hsr
  have hip := fun W => isPage_ok hp W
  have hge := fun W (hg : Grows w W) => sget_any (h.st.grows hg) hp
  rw [hg, entA_no hg] at hge
  unfold zeroE at hge
  have HGE := Lib.hid hge
  have hjN := Nat.lt_of_lt_of_le hj h.hnN
  have q5 : decide (((N / 256 : Nat) : Int) ≤ (j : Int)) = false := decide_eq_false (by omega)
  have hfm := fun W (h : Mem W pm q N B) => frames_any h
  obtain ⟨NF, hNF⟩ : ∃ NF, NF = N / 256 := ⟨_, rfl⟩
  rw [← hNF] at hfm q5
  have HFM := Lib.hid hfm
  have hjF : j < NF := by omega
  clear hNF hfm
  have q6 : decide ((j : Int) < 0) = false := decide_eq_false (by omega)
  have ht := (h.st.low _ _ hl).2
  have HLO := Lib.hid (fun W C c' s' root' (h : StAt W tb pm fp bl s' q N (o : Int) root' c' L C) => (h.map.look_ok Tryd.underlying3 Tryd.underlying3 Tryd.underlying29 (zero_int' W) (K := ((page / 32 : Nat) : Int)) (wf_of (by omega) (by omega))).1)
  have hlk := fun W C c' s' root' (h : StAt W tb pm fp bl s' q N (o : Int) root' c' L C) => h.look (k := page / 32) (by omega) hl
  rw [hl] at HLO
  simp only [Option.getD_some, Option.isSome_some] at HLO
  have hlf := fun W => sleaf_any r x1 x2 j W
  unfold pgL at hlf
  have hpu := fun W C c' s' root' (h : StAt W tb pm fp bl s' q N (o : Int) root' c' L C) => put_any h.tab h.mem h.wid h.pla (t := t) (pl := page % 32) (by omega) (by omega) (by omega) h.sep.1 true r x1 x2 true false false j
  have how := fun W (h : FrAt W fp bt bw n first T O quo low) => Owner_some h hj hT0
  rw [hO] at how
  have hho := fun W (h : FrAt W fp bt bw n first T O quo low) => Hold_ok h hj hT hT0 hO
  have HPU := Lib.hid hpu
  have HLF := Lib.hid hlf
  have HLK := Lib.hid hlk
  have HOW := Lib.hid how
  have HHO := Lib.hid hho
  have HKQ := Lib.hid (show page / 32 < 32 by omega)
  have w1 : IntKind.i64.wrap (c (page / 32) + 1) = c (page / 32) + 1 := by rw [IntKind.wrap_i64]; omega
  obtain ⟨q1, q2, q3, q4⟩ := pageQR hp
  generalize page / 32 = kq at *
  generalize page % 32 = pr at *
  clear h hr hg hge hp hj hl hin hpu hlf hlk how hho hO hT hT0 hck hjN ht
  go_enter Tryd.func16, Tryd.ntmps16
  go_wp2_with fail
  obtain ⟨b7, hb7⟩ : ∃ b, b = w.heap.size := ⟨_, rfl⟩
  obtain ⟨W1, hW1⟩ : ∃ W1, W1 = w.alloc (Obj.cells #[.bool r, .bool x1, .bool x2] 23) := ⟨_, rfl⟩
  rw [← hW1, ← hb7]
  have hr7 : Row W1 b7 #[.bool r, .bool x1, .bool x2] 23 := by rw [hW1]; exact Row.new_at _ _ _ hb7
  have hg1 : Grows w W1 := by rw [hW1]; exact (Grows.refl _).alloc _
  have HB7 := Lib.hid (show w.heap.size ≤ b7 by omega)
  have HH1 := Lib.hid (HH.out.grows hg1)
  clear hW1 hb7
  refine (usable_open HH1.out.st.tab).mono ?_
  rintro _ _ ⟨rfl, hw⟩
  rw [hw]
  clear hw
  have l7 := hr7.lt
  have y0 : W1.cell? ⟨b7, 0, none⟩ = some (.bool r) := hr7.cell 0
  have y1 : W1.cell? ⟨b7, 1, none⟩ = some (.bool x1) := hr7.cell 1
  have y2 : W1.cell? ⟨b7, 2, none⟩ = some (.bool x2) := hr7.cell 2
  go_wp2_with fail
  refine (hip _).mono ?_
  rintro _ _ ⟨rfl, hw⟩
  rw [hw]
  clear hw
  go_wp2_with fail
  refine (hsr _).mono ?_
  rintro _ w2 ⟨rfl, hg2⟩
  have HH2 := Lib.hid (HH1.out.grows hg2)
  have HR72 := Lib.hid (hr7.grows hg2)
  have HG2 := Lib.hid (hg1.trans hg2)
  obtain ⟨c0, c1, c2, _, _, c5, lt⟩ := HH2.out.st.tab.cells
  clear hg1 hg2 hr7 HH1 HH hsr hip y0 y1 y2 l7
  go_wp2_with fail
  refine (HFM.out _ HH2.out.st.mem).mono ?_
  rintro _ _ ⟨rfl, hw⟩
  rw [hw]
  clear hw
  go_wp2_with fail
  refine (HGE.out _ HG2.out).mono ?_
  rintro _ w3 ⟨rfl, hg3⟩
  have HH3 := Lib.hid (HH2.out.grows hg3)
  have HR73 := Lib.hid (HR72.out.grows hg3)
  have HG3 := Lib.hid (HG2.out.trans hg3)
  clear hg3 HR72 HG2 HGE c0 c1 c2 c5 lt HH2
  go_upto_region 9 with fail
  obtain ⟨W4, hW4⟩ : ∃ W4, W4 = w3.alloc (Obj.cells #[.bool false, .bool false, .bool false, .bool false, .bool false, .bool false, .bool false, .int .i64 0] 111) := ⟨_, rfl⟩
  rw [← hW4]
  have hg4 : Grows w3 W4 := by rw [hW4]; exact (Grows.refl _).alloc _
  have HH4 := Lib.hid (HH3.out.grows hg4)
  have HR74 := Lib.hid (HR73.out.grows hg4)
  have HG4 := Lib.hid (HG3.out.trans hg4)
  clear hW4 hg4 HH3 HR73 HG3
  obtain ⟨_, c1, c2, _, _, _, lt⟩ := HH4.out.st.tab.cells
  have how4 := HOW.out _ HH4.out.fr
  go_wp2_with fail
  refine how4.mono ?_
  clear how4 c1 c2 lt HOW q5 q6
  rintro _ w5 ⟨rfl, hg5⟩
  have HH5 := Lib.hid (HH4.out.grows hg5)
  have HR75 := Lib.hid (HR74.out.grows hg5)
  have HG5 := Lib.hid (HG4.out.trans hg5)
  clear hg5 HH4 HR74 HG4
  obtain ⟨_, _, c2, _, _, _, lt⟩ := HH5.out.st.tab.cells
  go_wp2_with fail
  clear c2
  have HSG := Lib.hid (fun (w' : World) (h : TbAt w' tb pm fp bl (o : Int) root true c) => (⟨h.cells.2.1, h.cells.2.2.1⟩ : w'.cell? ⟨tb, 1, none⟩ = some (.pointer (some ⟨fp, 0, none⟩)) ∧ w'.cell? ⟨tb, 2, none⟩ = some (.int .i64 o)))
  go_region_held3 (fun w' => w'.cell? ⟨tb, 1, none⟩ = some (.pointer (some ⟨fp, 0, none⟩)) ∧ w'.cell? ⟨tb, 2, none⟩ = some (.int .i64 o)) (first
    | with_reducible exact HSG.out _ (((HH5.out.grows ((Grows.refl _).drew)).framed HF6.out HC6.out).st.tab)
    | with_reducible exact HSG.out _ (HH5.out.grows ((Grows.refl _).drew)).st.tab) (first
    | (go_at_call 41; refine (HHO.out _ (HH5.out.grows ((Grows.refl _).drew)).fr).mono ?_; rintro _ w6 ⟨rfl, hF6, hC6⟩
       have HF6 := Lib.hid hF6
       have HC6 := Lib.hid hC6
       clear hF6 hC6))
  all_goals
    have HH6 := Lib.hid ((HH5.out.grows ((Grows.refl _).drew)).framed HF6.out HC6.out)
    have hb : b7 ≠ fp ∧ b7 ≠ bt ∧ b7 ≠ bw ∧ b7 ≠ q ∧ b7 ≠ tb := by have := HLT.out; have := HB7.out; omega
    have HR76 := Lib.hid ((HR75.out.grows ((Grows.refl _).drew)).chg HC6.out (by simp; omega))
    have HC := Lib.hid ((Chg.of_grows (S := [fp, bt, bw]) (HG5.out.drew)).trans HC6.out)
    clear HH5 HR75 HG5 HF6 HC6 HSG HHO lt
    have hlo6 := HLO.out w6 _ _ _ _ HH6.out.st
    obtain ⟨_, _, _, _, _, c5, lt⟩ := HH6.out.st.tab.cells
    go_wp2_with fail
    clear hlo6 c5
    have l7 := HR76.out.lt
    have HSL := Lib.hid (fun (w' : World) (C : Nat → Nat) (hs : StAt w' tb pm fp bl s q N (o : Int) root c L C) (h7 : Row w' b7 #[.bool r, .bool x1, .bool x2] 23) => (⟨hs.tab.cells.2.2.2.2.2.1, HLK.out w' C c s root hs, h7.cell 0, h7.cell 1, h7.cell 2⟩ : w'.cell? ⟨tb, 5, none⟩ = some (.map (some bl)) ∧ (Instr.lookup 29 (.map (some bl)) (.int .i64 kq) false).run Tryd.prog w' = .ok (.int .i64 t) w' ∧ w'.cell? ⟨b7, 0, none⟩ = some (.bool r) ∧ w'.cell? ⟨b7, 1, none⟩ = some (.bool x1) ∧ w'.cell? ⟨b7, 2, none⟩ = some (.bool x2)))
    go_region_held3 (fun w' => w'.cell? ⟨tb, 5, none⟩ = some (.map (some bl)) ∧ (Instr.lookup 29 (.map (some bl)) (.int .i64 kq) false).run Tryd.prog w' = .ok (.int .i64 t) w' ∧ w'.cell? ⟨b7, 0, none⟩ = some (.bool r) ∧ w'.cell? ⟨b7, 1, none⟩ = some (.bool x1) ∧ w'.cell? ⟨b7, 2, none⟩ = some (.bool x2)) (first
      | with_reducible exact HSL.out _ _ ((HH6.out.st.grows HG7.out).wrote HM8.out HC8.out) ((HR76.out.grows HG7.out).chg HC8.out (by simp; omega))
      | with_reducible exact HSL.out _ _ (HH6.out.st.grows HG7.out) (HR76.out.grows HG7.out)
      | with_reducible exact HSL.out _ _ (HH6.out.st.grows ((Grows.refl _).drew)) (HR76.out.grows ((Grows.refl _).drew))) (first
      | (go_at_call 53; refine (HLF.out _).mono ?_; rintro _ w7 ⟨rfl, hg7⟩
         have HG7 : Hid (Grows w6 w7) := Lib.hid (((Grows.refl _).drew).trans hg7)
         clear hg7)
      | (go_at_call 45; refine (HPU.out _ _ _ _ _ (HH6.out.st.grows HG7.out)).mono ?_; rintro _ w8 ⟨⟨vv, rfl⟩, hM8, hC8⟩
         have HM8 := Lib.hid hM8
         have HC8 := Lib.hid hC8
         clear hM8 hC8))
    all_goals
      have HH8 := Lib.hid ((HH6.out.grows HG7.out).wrote HM8.out HC8.out)
      have HCC := Lib.hid (((HC.out.weaken (T := [fp, bt, bw, q, tb]) (fun k hk => Or.inl (by simp at hk ⊢; omega))).trans (Chg.of_grows HG7.out)).trans (HC8.out.weaken (T := [fp, bt, bw, q, tb]) (fun k hk => Or.inl (by simp at hk ⊢; omega))))
      have cc := HH8.out.st.tab.count HKQ.out
      have lt8 := HH8.out.st.tab.row.lt
      have fz := HH8.out.st.tab.row.frozen (6 + kq)
      have kl : kq < 32 := HKQ.out
      clear HH6 HR76 HC HG7 HM8 HC8 HSL HLK HPU HLF HLO lt l7
      go_wp2_with fail
      go_region
      all_goals
        go_wp2_with fail
        go_ret
        exact ⟨rfl, (HH8.out.counted HKQ.out _).grows ((Grows.refl _).drew), (HCC.out.setCell (Or.inl (by simp)) _ _).drew⟩
end Go.Proofs.YtlchlklbjocliaaDoor

/- The package stage: Map where the lower table is to be made. -/
namespace Go.Proofs.YtlchlklbjocliaaDoor
open Go Go.RowKit
set_option linter.unusedSimpArgs false
set_option linter.unusedVariables false
set_option maxRecDepth 100000
theorem GuAt.mapped {w w' : World} {tb pm fp bl s s' q N o : Nat} {root : Int} {c : Nat → Int} {L L' : Int → Option Int} {B : Nat → Nat} {bt bw n first : Nat} {T O : Nat → Nat} {quo : Nat → Int} {low : Nat} (h : GuAt w tb pm fp bl s q N o root c L B bt bw n first T O quo low) (hm : LMap w' bl s' L') (hg : w.grownBy w' (some bl)) (hlow : ∀ k t, L' k = some t → 0 ≤ t ∧ t < 65536) : GuAt w' tb pm fp bl s' q N o root c L' B bt bw n first T O quo low := by
  have hc : Chg [bl] w w' := (Chg.refl _ _).grownBy hg (fun b hb => by injection hb with hb; subst hb; exact Or.inl (by simp))
  have s1 := h.st.sep
  have s2 := h.apt
  have s3 := h.apl
  have g1 := h.apg bl (Or.inr (Or.inr (Or.inr (Or.inr rfl))))
  exact ⟨⟨h.st.tab.chg hc (by simp; omega), hm, MemAt.chg h.st.mem hc (by simp; omega) (by simp; omega), h.st.wid.chgS hc (by simp; omega), h.st.pla.chgS hc (by simp; omega), hlow, h.st.sep⟩, h.fr.chg hc (by simp; omega), h.hnN, h.apq, h.apt, h.apl, h.apg⟩
/-- What take answers. -/
def TakeR (w' : World) (p q N fp bt bw n first low : Nat) (B T O : Nat → Nat) (quo : Nat → Int) (tv e : Int) : Prop :=
  (∃ k : Nat, k < n ∧ (∀ i, i < k → 0 < T i) ∧ T k = 0 ∧ first ≤ k ∧ tv = k ∧ e = 0 ∧ FrAt w' fp bt bw n first (upF T k 1) (upF O k 0) quo k ∧ Mem w' p q N (putB B (k * 256) (List.replicate 256 0))) ∨
  ((∀ i, i < n → 0 < T i) ∧ tv = 0 ∧ e = 20 ∧ FrAt w' fp bt bw n first T O quo n ∧ Mem w' p q N B)
theorem take_all {w : World} {p q N fp bt bw n first low : Nat} {B T O : Nat → Nat} {quo : Nat → Int} (hM : Mem w p q N B) (h : FrAt w fp bt bw n first T O quo low) (hnN : n ≤ N / 256) (hq : (ownC n T O 0 : Int) < quo 0) (hap : p ≠ fp ∧ p ≠ bt ∧ p ≠ bw ∧ q ≠ fp ∧ q ≠ bt ∧ q ≠ bw) :
    Calls Tryd.prog 52 #[.pointer (some ⟨p, 0, none⟩), .pointer (some ⟨fp, 0, none⟩)] w fun r w' => ∃ tv e : Int, r = .returned (.tuple #[.int .i64 tv, .int .i64 e]) ∧ TakeR w' p q N fp bt bw n first low B T O quo tv e ∧ Chg [fp, bt, bw, q] w w' := by
  refine (take_any hM h hnN hq hap).mono ?_
  rintro r w' ⟨⟨k, h1, h2, h3, h4, hr, h5, h6⟩ | ⟨h1, hr, h5, h6⟩, hc⟩
  · exact ⟨k, 0, hr, Or.inl ⟨k, h1, h2, h3, h4, rfl, rfl, h5, h6⟩, hc⟩
  · exact ⟨0, 20, hr, Or.inr ⟨h1, rfl, rfl, h5, h6⟩, hc⟩
set_option maxHeartbeats 4000000 in
theorem Map_new {w : World} {tb pm fp bl s q N o rt : Nat} {c : Nat → Int} {L : Int → Option Int} {B : Nat → Nat} {bt bw n first : Nat} {T O : Nat → Nat} {quo : Nat → Int} {low : Nat} (h : GuAt w tb pm fp bl s q N o (rt : Int) c L B bt bw n first T O quo low) {page j : Nat} (hp : page < 1024) (r x1 x2 : Bool) (hr : rightR r x1 x2 = true) (hj : j < n) (hg : gok (rdP N B L page) = false) (hT0 : 0 < T j) (hT : T j < 65536) (hO : O j = o) (hfj : first ≤ j) (hl : L ((page / 32 : Nat) : Int) = none) (hrt : rt * 256 + 256 ≤ N) (hck : 0 ≤ c (page / 32) ∧ c (page / 32) ≤ 1024) (hq0 : (ownC n (upF T j (T j + 1)) O 0 : Int) < quo 0) (hs : s < 1000000) (ho17 : o ≤ 16) :
    Calls Tryd.prog 16 #[.pointer (some ⟨tb, 0, none⟩), .int .i64 page, .int .i64 j, .agg #[.bool r, .bool x1, .bool x2]] w fun e w' =>
      ((∃ t : Nat, t < n ∧ (∀ i, i < t → 0 < upF T j (T j + 1) i) ∧ upF T j (T j + 1) t = 0 ∧ first ≤ t ∧ e = .returned (.int .i64 0) ∧ GuAt w' tb pm fp bl (s + 1) q N o rt (upC c (page / 32) (c (page / 32) + 1)) (imUpd L ((page / 32 : Nat) : Int) t) (putB (putB (putB B (t * 256) (List.replicate 256 0)) (rt * 256 + 8 * (page / 32)) (leB (packN true false false false false false false t) 8)) (t * 256 + 8 * (page % 32)) (leB (packN true r x1 x2 true false false j) 8)) bt bw n first (upF (upF T j (T j + 1)) t 1) (upF O t 0) quo t) ∨
       ((∀ i, i < n → 0 < upF T j (T j + 1) i) ∧ e = .returned (.int .i64 20) ∧ GuAt w' tb pm fp bl s q N o rt c L B bt bw n first T O quo n)) ∧ Chg [fp, bt, bw, q, tb, bl] w w' := by
  have HH := Lib.hid h
  have HLT := Lib.hid h.lts
  have hsr := fun W => srights_any r x1 x2 W
  rw [hr] at hsr
  have hip := fun W => isPage_ok hp W
  have hge := fun W (hg : Grows w W) => sget_any (h.st.grows hg) hp
  rw [hg, entA_no hg] at hge
  unfold zeroE at hge
  have HGE := Lib.hid hge
  have hjN := Nat.lt_of_lt_of_le hj h.hnN
  have q5 : decide (((N / 256 : Nat) : Int) ≤ (j : Int)) = false := decide_eq_false (by omega)
  have hfm := fun W (h : Mem W pm q N B) => frames_any h
  have hnN := h.hnN
  have hap := h.apq
  obtain ⟨NF, hNF⟩ : ∃ NF, NF = N / 256 := ⟨_, rfl⟩
  rw [← hNF] at hfm q5
  have HFM := Lib.hid hfm
  have hjF : j < NF := by omega
  clear hNF hfm
  have q6 : decide ((j : Int) < 0) = false := decide_eq_false (by omega)
  have HLO := Lib.hid (fun W C c' s' root' (h : StAt W tb pm fp bl s' q N (o : Int) root' c' L C) => (h.map.look_ok Tryd.underlying3 Tryd.underlying3 Tryd.underlying29 (zero_int' W) (K := ((page / 32 : Nat) : Int)) (wf_of (by omega) (by omega))).1)
  have HUP := Lib.hid (fun W C c' root' (t : Nat) (ht : t < 65536) (h : StAt W tb pm fp bl s q N (o : Int) root' c' L C) => h.map.update Tryd.underlying3 Tryd.underlying3 Tryd.underlying29 (by unfold maxLen; omega) (K := ((page / 32 : Nat) : Int)) (V := (t : Int)) (wf_of (by omega) (by omega)) (wf_of (by omega) (by omega)))
  rw [hl] at HLO HUP
  simp only [Option.getD_none, Option.isSome_none] at HLO HUP
  have HLK := Lib.hid (fun W C c' s' root' (t : Nat) (h : StAt W tb pm fp bl s' q N (o : Int) root' c' (imUpd L ((page / 32 : Nat) : Int) t) C) => h.look (k := page / 32) (by omega) (t := (t : Int)) (by unfold imUpd; rw [if_pos rfl]))
  have hlf := fun W => sleaf_any r x1 x2 j W
  unfold pgL at hlf
  have HLF := Lib.hid hlf
  have HPU := Lib.hid (fun (t : Nat) (ht : t < n) W C c' L' s' root' (h : StAt W tb pm fp bl s' q N (o : Int) root' c' L' C) => put_any h.tab h.mem h.wid h.pla (t := t) (pl := page % 32) (by have := h.mem.hn; omega) (by omega) (by omega) h.sep.1 true r x1 x2 true false false j)
  have HPR := Lib.hid (fun (t : Nat) W C c' L' s' root' (h : StAt W tb pm fp bl s' q N (o : Int) root' c' L' C) => put_any h.tab h.mem h.wid h.pla (t := rt) (pl := page / 32) (by have := h.mem.hn; omega) (by omega) (by omega) h.sep.1 true false false false false false false t)
  have how := fun W (h : FrAt W fp bt bw n first T O quo low) => Owner_some h hj hT0
  rw [hO] at how
  have hho := fun W (h : FrAt W fp bt bw n first T O quo low) => Hold_ok h hj hT hT0 hO
  have HOW := Lib.hid how
  have HHO := Lib.hid hho
  have HTK := Lib.hid (fun W (hM : Mem W pm q N B) (hF : FrAt W fp bt bw n first (upF T j (T j + 1)) O quo low) => take_all hM hF hnN hq0 hap)
  have hup : upF T j (T j + 1) j = T j + 1 := by unfold upF; rw [if_pos rfl]
  have hback : upF (upF T j (T j + 1)) j (upF T j (T j + 1) j - 1) = T := by
    funext i
    rw [hup]
    unfold upF
    by_cases hi : i = j
    · rw [if_pos hi, hi]; rfl
    · rw [if_neg hi, if_neg hi]
  have HFR := Lib.hid (show ∀ W low', FrAt W fp bt bw n first (upF T j (T j + 1)) O quo low' → Calls Tryd.prog 42 #[.pointer (some ⟨fp, 0, none⟩), .int .i64 j, .int .i64 o] W fun r w' => r = .returned (.tuple #[.bool false, .int .i64 0]) ∧ FrAt w' fp bt bw n first T O quo low' ∧ Chg [fp, bt, bw] W w' from fun W low' hF => by have := Free_more hF hj (by rw [hup]; omega) hO hfj; rw [hback] at this; exact this)
  have HKQ := Lib.hid (show page / 32 < 32 by omega)
  have w1 : IntKind.i64.wrap (c (page / 32) + 1) = c (page / 32) + 1 := by rw [IntKind.wrap_i64]; omega
  have HN64 := Lib.hid (show n ≤ 65536 from h.fr.n2)
  have HLW := Lib.hid h.st.low
  obtain ⟨q1, q2, q3, q4⟩ := pageQR hp
  generalize page / 32 = kq at *
  generalize page % 32 = pr at *
  clear h hr hg hge hp hj hl hlf how hho hO hT hT0 hck hjN hup hback hs hq0 hrt hfj ho17 hnN hap
  go_enter Tryd.func16, Tryd.ntmps16
  go_wp2_with fail
  obtain ⟨b7, hb7⟩ : ∃ b, b = w.heap.size := ⟨_, rfl⟩
  obtain ⟨W1, hW1⟩ : ∃ W1, W1 = w.alloc (Obj.cells #[.bool r, .bool x1, .bool x2] 23) := ⟨_, rfl⟩
  rw [← hW1, ← hb7]
  have hr7 : Row W1 b7 #[.bool r, .bool x1, .bool x2] 23 := by rw [hW1]; exact Row.new_at _ _ _ hb7
  have hg1 : Grows w W1 := by rw [hW1]; exact (Grows.refl _).alloc _
  have HB7 := Lib.hid (show w.heap.size ≤ b7 by omega)
  have HH1 := Lib.hid (HH.out.grows hg1)
  clear hW1 hb7
  refine (usable_open HH1.out.st.tab).mono ?_
  rintro _ _ ⟨rfl, hw⟩
  rw [hw]
  clear hw
  have l7 := hr7.lt
  have y0 : W1.cell? ⟨b7, 0, none⟩ = some (.bool r) := hr7.cell 0
  have y1 : W1.cell? ⟨b7, 1, none⟩ = some (.bool x1) := hr7.cell 1
  have y2 : W1.cell? ⟨b7, 2, none⟩ = some (.bool x2) := hr7.cell 2
  go_wp2_with fail
  refine (hip _).mono ?_
  rintro _ _ ⟨rfl, hw⟩
  rw [hw]
  clear hw
  go_wp2_with fail
  refine (hsr _).mono ?_
  rintro _ w2 ⟨rfl, hg2⟩
  have HH2 := Lib.hid (HH1.out.grows hg2)
  have HR72 := Lib.hid (hr7.grows hg2)
  have HG2 := Lib.hid (hg1.trans hg2)
  obtain ⟨c0, c1, c2, _, _, c5, lt⟩ := HH2.out.st.tab.cells
  clear hg1 hg2 hr7 HH1 HH hsr hip y0 y1 y2 l7
  go_wp2_with fail
  refine (HFM.out _ HH2.out.st.mem).mono ?_
  rintro _ _ ⟨rfl, hw⟩
  rw [hw]
  clear hw
  go_wp2_with fail
  refine (HGE.out _ HG2.out).mono ?_
  rintro _ w3 ⟨rfl, hg3⟩
  have HH3 := Lib.hid (HH2.out.grows hg3)
  have HR73 := Lib.hid (HR72.out.grows hg3)
  have HG3 := Lib.hid (HG2.out.trans hg3)
  clear hg3 HR72 HG2 HGE c0 c1 c2 c5 lt HH2
  go_upto_region 9 with fail
  obtain ⟨W4, hW4⟩ : ∃ W4, W4 = w3.alloc (Obj.cells #[.bool false, .bool false, .bool false, .bool false, .bool false, .bool false, .bool false, .int .i64 0] 111) := ⟨_, rfl⟩
  rw [← hW4]
  have hg4 : Grows w3 W4 := by rw [hW4]; exact (Grows.refl _).alloc _
  have HH4 := Lib.hid (HH3.out.grows hg4)
  have HR74 := Lib.hid (HR73.out.grows hg4)
  have HG4 := Lib.hid (HG3.out.trans hg4)
  clear hW4 hg4 HH3 HR73 HG3
  obtain ⟨_, c1, c2, _, _, _, lt⟩ := HH4.out.st.tab.cells
  have how4 := HOW.out _ HH4.out.fr
  go_wp2_with fail
  refine how4.mono ?_
  clear how4 c1 c2 lt HOW q5 q6
  rintro _ w5 ⟨rfl, hg5⟩
  have HH5 := Lib.hid (HH4.out.grows hg5)
  have HR75 := Lib.hid (HR74.out.grows hg5)
  have HG5 := Lib.hid (HG4.out.trans hg5)
  clear hg5 HH4 HR74 HG4
  obtain ⟨_, _, c2, _, _, _, lt⟩ := HH5.out.st.tab.cells
  go_wp2_with fail
  clear c2
  have HSG := Lib.hid (fun (w' : World) (h : TbAt w' tb pm fp bl (o : Int) rt true c) => (⟨h.cells.2.1, h.cells.2.2.1⟩ : w'.cell? ⟨tb, 1, none⟩ = some (.pointer (some ⟨fp, 0, none⟩)) ∧ w'.cell? ⟨tb, 2, none⟩ = some (.int .i64 o)))
  go_region_held3 (fun w' => w'.cell? ⟨tb, 1, none⟩ = some (.pointer (some ⟨fp, 0, none⟩)) ∧ w'.cell? ⟨tb, 2, none⟩ = some (.int .i64 o)) (first
    | with_reducible exact HSG.out _ (((HH5.out.grows ((Grows.refl _).drew)).framed HF6.out HC6.out).st.tab)
    | with_reducible exact HSG.out _ (HH5.out.grows ((Grows.refl _).drew)).st.tab) (first
    | (go_at_call 41; refine (HHO.out _ (HH5.out.grows ((Grows.refl _).drew)).fr).mono ?_; rintro _ w6 ⟨rfl, hF6, hC6⟩
       have HF6 := Lib.hid hF6
       have HC6 := Lib.hid hC6
       clear hF6 hC6))
  all_goals
    have HH6 := Lib.hid ((HH5.out.grows ((Grows.refl _).drew)).framed HF6.out HC6.out)
    have hb : b7 ≠ fp ∧ b7 ≠ bt ∧ b7 ≠ bw ∧ b7 ≠ q ∧ b7 ≠ tb ∧ b7 ≠ bl := by have := HLT.out; have := HB7.out; omega
    have HR76 := Lib.hid ((HR75.out.grows ((Grows.refl _).drew)).chg HC6.out (by simp; omega))
    have HC := Lib.hid ((Chg.of_grows (S := [fp, bt, bw]) (HG5.out.drew)).trans HC6.out)
    clear HH5 HR75 HG5 HF6 HC6 HSG HHO lt
    have hlo6 := HLO.out w6 _ _ _ _ HH6.out.st
    obtain ⟨_, _, _, _, _, c5, lt⟩ := HH6.out.st.tab.cells
    go_wp2_with fail
    clear hlo6 c5
    have hapt := HH6.out.apt
    have hsep := HH6.out.st.sep
    have HSG := Lib.hid (fun (w' : World) (h : TbAt w' tb pm fp bl (o : Int) rt true c) => (⟨h.cells.1, h.cells.2.1⟩ : w'.cell? ⟨tb, 0, none⟩ = some (.pointer (some ⟨pm, 0, none⟩)) ∧ w'.cell? ⟨tb, 1, none⟩ = some (.pointer (some ⟨fp, 0, none⟩))))
    go_region_held3 (fun w' => w'.cell? ⟨tb, 0, none⟩ = some (.pointer (some ⟨pm, 0, none⟩)) ∧ w'.cell? ⟨tb, 1, none⟩ = some (.pointer (some ⟨fp, 0, none⟩))) (first
      | with_reducible exact HSG.out _ ((HH6.out.grows ((Grows.refl _).drew)).st.tab.chg HC7.out (by simp; omega))
      | with_reducible exact HSG.out _ (HH6.out.grows ((Grows.refl _).drew)).st.tab) (first
      | (go_at_call 52; refine (HTK.out _ (HH6.out.grows ((Grows.refl _).drew)).st.mem (HH6.out.grows ((Grows.refl _).drew)).fr).mono ?_; rintro _ w7 ⟨tv, ee, rfl, hR7, hC7⟩
         have HT7 := Lib.hid hR7
         have HC7 := Lib.hid hC7
         clear hR7 hC7))
    all_goals
      have HR77 := Lib.hid ((HR76.out.grows ((Grows.refl _).drew)).chg HC7.out (by simp; omega))
      have HCC := Lib.hid (((HC.out.weaken (T := [fp, bt, bw, q, tb, bl]) (fun k hk => Or.inl (by simp at hk ⊢; omega))).drew).trans (HC7.out.weaken (T := [fp, bt, bw, q, tb, bl]) (fun k hk => Or.inl (by simp at hk ⊢; omega))))
      rcases HT7.out with ⟨t, ht, hlow, hTt, hft, rfl, rfl, hF7, hM7⟩ | ⟨hall, rfl, rfl, hF7, hM7⟩
      · have HH7 := Lib.hid ((HH6.out.grows ((Grows.refl _).drew)).both hF7 hM7 HC7.out)
        have HA := Lib.hid (show t < n ∧ (∀ i, i < t → 0 < upF T j (T j + 1) i) ∧ upF T j (T j + 1) t = 0 ∧ first ≤ t from ⟨ht, hlow, hTt, hft⟩)
        clear HH6 HR76 HC HC7 HT7 HSG HTK HFR ht hlow hTt hft hF7 hM7 lt HLO
        obtain ⟨w8, hrun, hm8, hg8⟩ := HUP.out w7 _ _ _ t (by have := HA.out; have := HN64.out; omega) HH7.out.st
        simp only [Bool.false_eq_true, if_false] at hm8
        have HH8 := Lib.hid (HH7.out.mapped hm8 hg8 (fun k' t' hk => by
          unfold imUpd at hk
          split at hk
          · injection hk with hk; have := HA.out; have := HN64.out; omega
          · exact HLW.out _ _ hk))
        have hc78 : Chg [bl] w7 w8 := (Chg.refl _ _).grownBy hg8 (fun b hb => by injection hb with hb; subst hb; exact Or.inl (by simp))
        have HR78 := Lib.hid (HR77.out.chg hc78 (by simp; omega))
        have HC8 := Lib.hid (HCC.out.trans (hc78.weaken (T := [fp, bt, bw, q, tb, bl]) (fun k hk => Or.inl (by simp at hk ⊢; omega))))
        obtain ⟨_, _, _, _, _, c5, lt⟩ := HH7.out.st.tab.cells
        obtain ⟨d0, d1, d2, d3, d4, d5, dt⟩ := HH8.out.st.tab.cells
        clear hm8 hg8 hc78 HR77 HCC HH7 HUP
        go_wp2_with fail
        clear hrun c5 lt d0 d1 d2 d3 d4 d5 dt
        refine (HPR.out t w8 _ _ _ _ _ HH8.out.st).mono ?_
        rintro _ w9 ⟨⟨vv, rfl⟩, hM9, hC9⟩
        have HH9 := Lib.hid (HH8.out.wrote hM9 hC9)
        have HR79 := Lib.hid (HR78.out.chg hC9 (by simp; omega))
        have HC9 := Lib.hid (HC8.out.trans (hC9.weaken (T := [fp, bt, bw, q, tb, bl]) (fun k hk => Or.inl (by simp at hk ⊢; omega))))
        clear hM9 hC9 HH8 HR78 HC8 HPR
        have l7 := HR79.out.lt
        have lt := HH9.out.st.tab.row.lt
        go_wp2_with fail
        have HSL := Lib.hid (fun (w' : World) (C : Nat → Nat) (s' : Nat) (hs : StAt w' tb pm fp bl s' q N (o : Int) rt c (imUpd L (kq : Int) t) C) (h7 : Row w' b7 #[.bool r, .bool x1, .bool x2] 23) => (⟨hs.tab.cells.2.2.2.2.2.1, HLK.out w' C c s' rt t hs, h7.cell 0, h7.cell 1, h7.cell 2⟩ : w'.cell? ⟨tb, 5, none⟩ = some (.map (some bl)) ∧ (Instr.lookup 29 (.map (some bl)) (.int .i64 kq) false).run Tryd.prog w' = .ok (.int .i64 t) w' ∧ w'.cell? ⟨b7, 0, none⟩ = some (.bool r) ∧ w'.cell? ⟨b7, 1, none⟩ = some (.bool x1) ∧ w'.cell? ⟨b7, 2, none⟩ = some (.bool x2)))
        go_region_held3 (fun w' => w'.cell? ⟨tb, 5, none⟩ = some (.map (some bl)) ∧ (Instr.lookup 29 (.map (some bl)) (.int .i64 kq) false).run Tryd.prog w' = .ok (.int .i64 t) w' ∧ w'.cell? ⟨b7, 0, none⟩ = some (.bool r) ∧ w'.cell? ⟨b7, 1, none⟩ = some (.bool x1) ∧ w'.cell? ⟨b7, 2, none⟩ = some (.bool x2)) (first
          | with_reducible exact HSL.out _ _ _ ((HH9.out.st.grows HG10.out).wrote HM11.out HC11.out) ((HR79.out.grows HG10.out).chg HC11.out (by simp; omega))
          | with_reducible exact HSL.out _ _ _ (HH9.out.st.grows HG10.out) (HR79.out.grows HG10.out)
          | with_reducible exact HSL.out _ _ _ (HH9.out.st.grows ((Grows.refl _).drew)) (HR79.out.grows ((Grows.refl _).drew))) (first
          | (go_at_call 53; refine (HLF.out _).mono ?_; rintro _ w10 ⟨rfl, hg10⟩
             have HG10 : Hid (Grows w9 w10) := Lib.hid (((Grows.refl _).drew).trans hg10)
             clear hg10)
          | (go_at_call 45; refine (HPU.out t HA.out.1 _ _ _ _ _ _ (HH9.out.st.grows HG10.out)).mono ?_; rintro _ w11 ⟨⟨vv2, rfl⟩, hM11, hC11⟩
             have HM11 := Lib.hid hM11
             have HC11 := Lib.hid hC11
             clear hM11 hC11))
        all_goals
          have HH11 := Lib.hid ((HH9.out.grows HG10.out).wrote HM11.out HC11.out)
          have HC12 := Lib.hid ((HC9.out.trans (Chg.of_grows HG10.out)).trans (HC11.out.weaken (T := [fp, bt, bw, q, tb, bl]) (fun k hk => Or.inl (by simp at hk ⊢; omega))))
          have cc := HH11.out.st.tab.count HKQ.out
          have lt11 := HH11.out.st.tab.row.lt
          have fz := HH11.out.st.tab.row.frozen (6 + kq)
          have kl : kq < 32 := HKQ.out
          clear HH9 HR79 HC9 HG10 HM11 HC11 HSL HLK HPU HLF lt l7
          go_wp2_with fail
          go_region
          all_goals
            go_wp2_with fail
            go_ret
            exact ⟨Or.inl ⟨t, HA.out.1, HA.out.2.1, HA.out.2.2.1, HA.out.2.2.2, rfl, (HH11.out.counted HKQ.out _).grows ((Grows.refl _).drew)⟩, (HC12.out.setCell (Or.inl (by simp)) _ _).drew⟩
      · have HH7 := Lib.hid ((HH6.out.grows ((Grows.refl _).drew)).both hF7 hM7 HC7.out)
        have HA := Lib.hid hall
        clear HH6 HR76 HC HC7 HT7 HSG HTK hall hF7 hM7 lt HLO HPU HPR HLK HUP HR77
        have lt := HH7.out.st.tab.row.lt
        go_wp2_with fail
        have HSG := Lib.hid (fun (w' : World) (h : TbAt w' tb pm fp bl (o : Int) rt true c) => (⟨h.cells.2.1, h.cells.2.2.1⟩ : w'.cell? ⟨tb, 1, none⟩ = some (.pointer (some ⟨fp, 0, none⟩)) ∧ w'.cell? ⟨tb, 2, none⟩ = some (.int .i64 o)))
        go_region_held3 (fun w' => w'.cell? ⟨tb, 1, none⟩ = some (.pointer (some ⟨fp, 0, none⟩)) ∧ w'.cell? ⟨tb, 2, none⟩ = some (.int .i64 o)) (first
          | with_reducible exact HSG.out _ (((HH7.out.grows ((Grows.refl _).drew)).framed HF8.out HC8.out).st.tab)
          | with_reducible exact HSG.out _ (HH7.out.grows ((Grows.refl _).drew)).st.tab) (first
          | (go_at_call 42; refine (HFR.out _ _ (HH7.out.grows ((Grows.refl _).drew)).fr).mono ?_; rintro _ w8 ⟨rfl, hF8, hC8⟩
             have HF8 := Lib.hid hF8
             have HC8 := Lib.hid hC8
             clear hF8 hC8))
        all_goals
          have HH8 := Lib.hid ((HH7.out.grows ((Grows.refl _).drew)).framed HF8.out HC8.out)
          have HC9 := Lib.hid ((HCC.out.drew).trans (HC8.out.weaken (T := [fp, bt, bw, q, tb, bl]) (fun k hk => Or.inl (by simp at hk ⊢; omega))))
          clear HSG HFR
          go_wp2_with fail
          go_ret
          exact ⟨Or.inr ⟨HA.out, rfl, HH8.out⟩, HC9.out⟩
end Go.Proofs.YtlchlklbjocliaaDoor

/- The package stage: Unmap. -/
namespace Go.Proofs.YtlchlklbjocliaaDoor
open Go Go.RowKit
set_option linter.unusedSimpArgs false
set_option linter.unusedVariables false
set_option maxRecDepth 100000
theorem Unmap_none {w : World} {tb pm fp bl s q N o rt : Nat} {c : Nat → Int} {L : Int → Option Int} {B : Nat → Nat} {bt bw n first : Nat} {T O : Nat → Nat} {quo : Nat → Int} {low : Nat} (h : GuAt w tb pm fp bl s q N o (rt : Int) c L B bt bw n first T O quo low) {page : Nat} (hp : page < 1024) (hg : gok (rdP N B L page) = false) :
    Calls Tryd.prog 12 #[.pointer (some ⟨tb, 0, none⟩), .int .i64 page] w fun e w' => e = .returned (.tuple #[.int .i64 0, .int .i64 14]) ∧ Grows w w' := by
  have hma := mapped_any h.st hp
  rw [hg, entA_no hg] at hma
  unfold zeroE at hma
  clear h hg hp
  go_enter Tryd.func12, Tryd.ntmps12
  go_wp2_with fail
  refine hma.mono ?_
  rintro _ w1 ⟨rfl, hg1⟩
  clear hma
  go_wp2_with fail
  exact bodyPost_ret (v := .tuple #[.int .i64 0, .int .i64 14]) (by simp [results, Tryd.results12, go_sem]) rfl ⟨rfl, hg1.alloc _⟩
set_option maxHeartbeats 4000000 in
theorem Unmap_more {w : World} {tb pm fp bl s q N o rt : Nat} {c : Nat → Int} {L : Int → Option Int} {B : Nat → Nat} {bt bw n first : Nat} {T O : Nat → Nat} {quo : Nat → Int} {low : Nat} (h : GuAt w tb pm fp bl s q N o (rt : Int) c L B bt bw n first T O quo low) {page : Nat} (hp : page < 1024) {t : Nat} (hg : gok (rdP N B L page) = true) (hl : L ((page / 32 : Nat) : Int) = some (t : Int)) (hin : t * 256 + 256 ≤ N) (hfn : ef (rdP N B L page) < n) (hT1 : 1 < T (ef (rdP N B L page))) (hO : O (ef (rdP N B L page)) = o) (hff : first ≤ ef (rdP N B L page)) (hck : 2 ≤ c (page / 32) ∧ c (page / 32) ≤ 1024) :
    Calls Tryd.prog 12 #[.pointer (some ⟨tb, 0, none⟩), .int .i64 page] w fun e w' => e = .returned (.tuple #[.int .i64 (ef (rdP N B L page)), .int .i64 0]) ∧ GuAt w' tb pm fp bl s q N o rt (upC c (page / 32) (c (page / 32) - 1)) L (putB B (t * 256 + 8 * (page % 32)) (leB (packN false false false false false false false 0) 8)) bt bw n first (upF T (ef (rdP N B L page)) (T (ef (rdP N B L page)) - 1)) O quo low ∧ Chg [fp, bt, bw, q, tb, bl] w w' := by
  have HH := Lib.hid h
  have HLT := Lib.hid h.lts
  have hma := mapped_any h.st hp
  have hen : entA (rdP N B L page) = #[.bool (eb (rdP N B L page) 0), .bool (eb (rdP N B L page) 1), .bool (eb (rdP N B L page) 2), .bool (eb (rdP N B L page) 3), .bool (eb (rdP N B L page) 4), .bool (eb (rdP N B L page) 5), .bool (eb (rdP N B L page) 6), .int .i64 (ef (rdP N B L page))] := rfl
  rw [hg, hen] at hma
  have HMA := Lib.hid hma
  have ht := (h.st.low _ _ hl).2
  have HLK := Lib.hid (fun W C c' s' root' (h : StAt W tb pm fp bl s' q N (o : Int) root' c' L C) => h.look (k := page / 32) (by omega) hl)
  have HPU := Lib.hid (fun W C c' s' root' (h : StAt W tb pm fp bl s' q N (o : Int) root' c' L C) => put_any h.tab h.mem h.wid h.pla (t := t) (pl := page % 32) (by omega) (by omega) (by omega) h.sep.1 false false false false false false false 0)
  have HFR := Lib.hid (fun W (hF : FrAt W fp bt bw n first T O quo low) => Free_more hF hfn hT1 hO hff)
  have HKQ := Lib.hid (show page / 32 < 32 by omega)
  have w1 : IntKind.i64.wrap (c (page / 32) - 1) = c (page / 32) - 1 := by rw [IntKind.wrap_i64]; omega
  have z5 : (c (page / 32) - 1 == 0) = false := by simp; omega
  obtain ⟨q1, q2, q3, q4⟩ := pageQR hp
  generalize rdP N B L page = v at *
  generalize page / 32 = kq at *
  generalize page % 32 = pr at *
  clear h hg hp hl hin hfn hT1 hO hff hck hma hen ht
  go_enter Tryd.func12, Tryd.ntmps12
  go_wp2_with fail
  refine HMA.out.mono ?_
  rintro _ w1 ⟨rfl, hg1⟩
  clear HMA
  go_upto_region 2 with fail
  obtain ⟨b6, hb6⟩ : ∃ b, b = w1.heap.size := ⟨_, rfl⟩
  obtain ⟨W2, hW2⟩ : ∃ W2, W2 = w1.alloc (Obj.cells #[.bool (eb v 0), .bool (eb v 1), .bool (eb v 2), .bool (eb v 3), .bool (eb v 4), .bool (eb v 5), .bool (eb v 6), .int .i64 (ef v)] 111) := ⟨_, rfl⟩
  rw [← hW2, ← hb6]
  have hg12 : Grows w1 W2 := by rw [hW2]; exact (Grows.refl _).alloc _
  have HR6 := Lib.hid (show Row W2 b6 #[.bool (eb v 0), .bool (eb v 1), .bool (eb v 2), .bool (eb v 3), .bool (eb v 4), .bool (eb v 5), .bool (eb v 6), .int .i64 (ef v)] 111 by rw [hW2]; exact Row.new_at _ _ _ hb6)
  have hb : b6 ≠ fp ∧ b6 ≠ bt ∧ b6 ≠ bw ∧ b6 ≠ q ∧ b6 ≠ tb ∧ b6 ≠ bl := by have := HLT.out; have := hg1.size; omega
  have HH2 := Lib.hid (HH.out.grows (hg1.trans hg12))
  have HC2 := Lib.hid (Chg.of_grows (S := [fp, bt, bw, q, tb, bl]) (hg1.trans hg12))
  clear hW2 hb6 hg1 hg12 HH
  obtain ⟨_, _, _, _, _, c5, lt⟩ := HH2.out.st.tab.cells
  have hlk2 := HLK.out W2 _ _ _ _ HH2.out.st
  go_wp2_with fail
  clear hlk2 c5 lt
  refine (HPU.out _ _ _ _ _ HH2.out.st).mono ?_
  rintro _ w3 ⟨⟨vv, rfl⟩, hM3, hC3⟩
  have HH3 := Lib.hid (HH2.out.wrote hM3 hC3)
  have HR63 := Lib.hid (HR6.out.chg hC3 (by simp; omega))
  have HC3 := Lib.hid (HC2.out.trans (hC3.weaken (T := [fp, bt, bw, q, tb, bl]) (fun k hk => Or.inl (by simp at hk ⊢; omega))))
  clear hM3 hC3 HH2 HR6 HC2 HPU
  have lt := HH3.out.st.tab.row.lt
  have l6 := HR63.out.lt
  go_wp2_with fail
  have HSF := Lib.hid (fun (w' : World) (h : TbAt w' tb pm fp bl (o : Int) rt true c) (h6 : Row w' b6 #[.bool (eb v 0), .bool (eb v 1), .bool (eb v 2), .bool (eb v 3), .bool (eb v 4), .bool (eb v 5), .bool (eb v 6), .int .i64 (ef v)] 111) => (⟨h.cells.2.1, h.cells.2.2.1, h6.cell 7⟩ : w'.cell? ⟨tb, 1, none⟩ = some (.pointer (some ⟨fp, 0, none⟩)) ∧ w'.cell? ⟨tb, 2, none⟩ = some (.int .i64 o) ∧ w'.cell? ⟨b6, 7, none⟩ = some (.int .i64 (ef v))))
  go_region_held3 (fun w' => w'.cell? ⟨tb, 1, none⟩ = some (.pointer (some ⟨fp, 0, none⟩)) ∧ w'.cell? ⟨tb, 2, none⟩ = some (.int .i64 o) ∧ w'.cell? ⟨b6, 7, none⟩ = some (.int .i64 (ef v))) (first
    | with_reducible exact HSF.out _ (((HH3.out.grows ((Grows.refl _).drew)).framed HF4.out HC4.out).st.tab) ((HR63.out.grows ((Grows.refl _).drew)).chg HC4.out (by simp; omega))
    | with_reducible exact HSF.out _ (HH3.out.grows ((Grows.refl _).drew)).st.tab (HR63.out.grows ((Grows.refl _).drew))) (first
    | (go_at_call 42; refine (HFR.out _ (HH3.out.grows ((Grows.refl _).drew)).fr).mono ?_; rintro _ w4 ⟨rfl, hF4, hC4⟩
       have HF4 := Lib.hid hF4
       have HC4 := Lib.hid hC4
       clear hF4 hC4))
  all_goals
    have HH4 := Lib.hid ((HH3.out.grows ((Grows.refl _).drew)).framed HF4.out HC4.out)
    have HR64 := Lib.hid ((HR63.out.grows ((Grows.refl _).drew)).chg HC4.out (by simp; omega))
    have HCC := Lib.hid ((HC3.out.drew).trans (HC4.out.weaken (T := [fp, bt, bw, q, tb, bl]) (fun k hk => Or.inl (by simp at hk ⊢; omega))))
    clear HH3 HR63 HC3 HF4 HC4 HSF HFR lt l6
    have cc := HH4.out.st.tab.count HKQ.out
    have lt := HH4.out.st.tab.row.lt
    have fz := HH4.out.st.tab.row.frozen (6 + kq)
    have kl : kq < 32 := HKQ.out
    go_wp2_with fail
    go_region
    all_goals
      obtain ⟨W5, hW5⟩ : ∃ W5, W5 = World.drew (w4.setCell ⟨tb, 6 + kq, none⟩ (.int .i64 (c kq - 1))) := ⟨_, rfl⟩
      rw [← hW5]
      have HH5 := Lib.hid (show GuAt W5 tb pm fp bl s q N o rt (upC c kq (c kq - 1)) L _ bt bw n first _ O quo low by rw [hW5]; exact (HH4.out.counted HKQ.out (c kq - 1)).grows ((Grows.refl _).drew))
      have HR65 := Lib.hid (show Row W5 b6 #[.bool (eb v 0), .bool (eb v 1), .bool (eb v 2), .bool (eb v 3), .bool (eb v 4), .bool (eb v 5), .bool (eb v 6), .int .i64 (ef v)] 111 by rw [hW5]; exact (row_setOther HR64.out (fun e => hb.2.2.2.2.1 e.symm) _).grows ((Grows.refl _).drew))
      have HC5 := Lib.hid (show Chg [fp, bt, bw, q, tb, bl] w W5 by rw [hW5]; exact (HCC.out.setCell (Or.inl (by simp)) _ _).drew)
      clear hW5 HH4 HR64 HCC cc lt fz
      have c5 := HH5.out.st.tab.count HKQ.out
      have hcv : upC c kq (c kq - 1) kq = c kq - 1 := by unfold upC; rw [if_pos rfl]
      rw [hcv] at c5
      have lt := HH5.out.st.tab.row.lt
      have l6 := HR65.out.lt
      have y7 : W5.cell? ⟨b6, 7, none⟩ = some (.int .i64 (ef v)) := HR65.out.cell 7
    go_wp2_with fail
    exact bodyPost_ret (v := .tuple #[.int .i64 (ef v), .int .i64 0]) (by simp [results, Tryd.results12, go_sem]) rfl ⟨rfl, HH5.out, HC5.out⟩
set_option maxHeartbeats 4000000 in
theorem Unmap_last {w : World} {tb pm fp bl s q N o rt : Nat} {c : Nat → Int} {L : Int → Option Int} {B : Nat → Nat} {bt bw n first : Nat} {T O : Nat → Nat} {quo : Nat → Int} {low : Nat} (h : GuAt w tb pm fp bl s q N o (rt : Int) c L B bt bw n first T O quo low) {page : Nat} (hp : page < 1024) {t : Nat} (hg : gok (rdP N B L page) = true) (hl : L ((page / 32 : Nat) : Int) = some (t : Int)) (hin : t * 256 + 256 ≤ N) (hfn : ef (rdP N B L page) < n) (hT1 : 1 < T (ef (rdP N B L page))) (hO : O (ef (rdP N B L page)) = o) (hff : first ≤ ef (rdP N B L page)) (hck : c (page / 32) = 1) (hrt : rt * 256 + 256 ≤ N) (htn : t < n) (htT : T t = 1) (htO : O t = 0) (htf : first ≤ t) :
    Calls Tryd.prog 12 #[.pointer (some ⟨tb, 0, none⟩), .int .i64 page] w fun e w' => e = .returned (.tuple #[.int .i64 (ef (rdP N B L page)), .int .i64 0]) ∧ GuAt w' tb pm fp bl (s - 1) q N o rt (upC c (page / 32) (c (page / 32) - 1)) (imDel L ((page / 32 : Nat) : Int)) (putB (putB B (t * 256 + 8 * (page % 32)) (leB (packN false false false false false false false 0) 8)) (rt * 256 + 8 * (page / 32)) (leB (packN false false false false false false false 0) 8)) bt bw n first (upF (upF T (ef (rdP N B L page)) (T (ef (rdP N B L page)) - 1)) t 0) O quo (min low t) ∧ Chg [fp, bt, bw, q, tb, bl] w w' := by
  have HH := Lib.hid h
  have HLT := Lib.hid h.lts
  have hma := mapped_any h.st hp
  have hen : entA (rdP N B L page) = #[.bool (eb (rdP N B L page) 0), .bool (eb (rdP N B L page) 1), .bool (eb (rdP N B L page) 2), .bool (eb (rdP N B L page) 3), .bool (eb (rdP N B L page) 4), .bool (eb (rdP N B L page) 5), .bool (eb (rdP N B L page) 6), .int .i64 (ef (rdP N B L page))] := rfl
  rw [hg, hen] at hma
  have HMA := Lib.hid hma
  have ht := (h.st.low _ _ hl).2
  have HLK := Lib.hid (fun W C c' s' root' (h : StAt W tb pm fp bl s' q N (o : Int) root' c' L C) => h.look (k := page / 32) (by omega) hl)
  have HPU := Lib.hid (fun W C c' s' root' (h : StAt W tb pm fp bl s' q N (o : Int) root' c' L C) => put_any h.tab h.mem h.wid h.pla (t := t) (pl := page % 32) (by omega) (by omega) (by omega) h.sep.1 false false false false false false false 0)
  have HFR := Lib.hid (fun W (hF : FrAt W fp bt bw n first T O quo low) => Free_more hF hfn hT1 hO hff)
  have HKQ := Lib.hid (show page / 32 < 32 by omega)
  have w1 : IntKind.i64.wrap (c (page / 32) - 1) = c (page / 32) - 1 := by rw [IntKind.wrap_i64]; omega
  have z5 : (c (page / 32) - 1 == 0) = true := by rw [hck]; rfl
  have HPR := Lib.hid (fun W C c' L' s' root' (h : StAt W tb pm fp bl s' q N (o : Int) root' c' L' C) => put_any h.tab h.mem h.wid h.pla (t := rt) (pl := page / 32) (by have := h.mem.hn; omega) (by omega) (by omega) h.sep.1 false false false false false false false 0)
  have htne : t ≠ ef (rdP N B L page) := by intro e; rw [e] at htT; omega
  have hup : upF T (ef (rdP N B L page)) (T (ef (rdP N B L page)) - 1) t = 1 := by rw [upF_ne _ _ htne]; exact htT
  have HFT := Lib.hid (fun W (hF : FrAt W fp bt bw n first (upF T (ef (rdP N B L page)) (T (ef (rdP N B L page)) - 1)) O quo low) => Free_last hF htn hup htO htf)
  have HDL := Lib.hid (fun W C c' root' (h : StAt W tb pm fp bl s q N (o : Int) root' c' L C) => h.map.del Tryd.underlying3 Tryd.underlying29 (K := ((page / 32 : Nat) : Int)) (wf_of (by omega) (by omega)) 0)
  rw [hl] at HDL
  simp only [Option.isSome_some, if_true] at HDL
  have HLW := Lib.hid h.st.low
  obtain ⟨q1, q2, q3, q4⟩ := pageQR hp
  generalize rdP N B L page = v at *
  generalize page / 32 = kq at *
  generalize page % 32 = pr at *
  clear h hg hp hl hin hfn hT1 hO hff hck hma hen ht hrt htn htT htO htf htne hup
  go_enter Tryd.func12, Tryd.ntmps12
  go_wp2_with fail
  refine HMA.out.mono ?_
  rintro _ w1 ⟨rfl, hg1⟩
  clear HMA
  go_upto_region 2 with fail
  obtain ⟨b6, hb6⟩ : ∃ b, b = w1.heap.size := ⟨_, rfl⟩
  obtain ⟨W2, hW2⟩ : ∃ W2, W2 = w1.alloc (Obj.cells #[.bool (eb v 0), .bool (eb v 1), .bool (eb v 2), .bool (eb v 3), .bool (eb v 4), .bool (eb v 5), .bool (eb v 6), .int .i64 (ef v)] 111) := ⟨_, rfl⟩
  rw [← hW2, ← hb6]
  have hg12 : Grows w1 W2 := by rw [hW2]; exact (Grows.refl _).alloc _
  have HR6 := Lib.hid (show Row W2 b6 #[.bool (eb v 0), .bool (eb v 1), .bool (eb v 2), .bool (eb v 3), .bool (eb v 4), .bool (eb v 5), .bool (eb v 6), .int .i64 (ef v)] 111 by rw [hW2]; exact Row.new_at _ _ _ hb6)
  have hb : b6 ≠ fp ∧ b6 ≠ bt ∧ b6 ≠ bw ∧ b6 ≠ q ∧ b6 ≠ tb ∧ b6 ≠ bl := by have := HLT.out; have := hg1.size; omega
  have HH2 := Lib.hid (HH.out.grows (hg1.trans hg12))
  have HC2 := Lib.hid (Chg.of_grows (S := [fp, bt, bw, q, tb, bl]) (hg1.trans hg12))
  clear hW2 hb6 hg1 hg12 HH
  obtain ⟨_, _, _, _, _, c5, lt⟩ := HH2.out.st.tab.cells
  have hlk2 := HLK.out W2 _ _ _ _ HH2.out.st
  go_wp2_with fail
  clear hlk2 c5 lt
  refine (HPU.out _ _ _ _ _ HH2.out.st).mono ?_
  rintro _ w3 ⟨⟨vv, rfl⟩, hM3, hC3⟩
  have HH3 := Lib.hid (HH2.out.wrote hM3 hC3)
  have HR63 := Lib.hid (HR6.out.chg hC3 (by simp; omega))
  have HC3 := Lib.hid (HC2.out.trans (hC3.weaken (T := [fp, bt, bw, q, tb, bl]) (fun k hk => Or.inl (by simp at hk ⊢; omega))))
  clear hM3 hC3 HH2 HR6 HC2 HPU
  have lt := HH3.out.st.tab.row.lt
  have l6 := HR63.out.lt
  go_wp2_with fail
  have HSF := Lib.hid (fun (w' : World) (h : TbAt w' tb pm fp bl (o : Int) rt true c) (h6 : Row w' b6 #[.bool (eb v 0), .bool (eb v 1), .bool (eb v 2), .bool (eb v 3), .bool (eb v 4), .bool (eb v 5), .bool (eb v 6), .int .i64 (ef v)] 111) => (⟨h.cells.2.1, h.cells.2.2.1, h6.cell 7⟩ : w'.cell? ⟨tb, 1, none⟩ = some (.pointer (some ⟨fp, 0, none⟩)) ∧ w'.cell? ⟨tb, 2, none⟩ = some (.int .i64 o) ∧ w'.cell? ⟨b6, 7, none⟩ = some (.int .i64 (ef v))))
  go_region_held3 (fun w' => w'.cell? ⟨tb, 1, none⟩ = some (.pointer (some ⟨fp, 0, none⟩)) ∧ w'.cell? ⟨tb, 2, none⟩ = some (.int .i64 o) ∧ w'.cell? ⟨b6, 7, none⟩ = some (.int .i64 (ef v))) (first
    | with_reducible exact HSF.out _ (((HH3.out.grows ((Grows.refl _).drew)).framed HF4.out HC4.out).st.tab) ((HR63.out.grows ((Grows.refl _).drew)).chg HC4.out (by simp; omega))
    | with_reducible exact HSF.out _ (HH3.out.grows ((Grows.refl _).drew)).st.tab (HR63.out.grows ((Grows.refl _).drew))) (first
    | (go_at_call 42; refine (HFR.out _ (HH3.out.grows ((Grows.refl _).drew)).fr).mono ?_; rintro _ w4 ⟨rfl, hF4, hC4⟩
       have HF4 := Lib.hid hF4
       have HC4 := Lib.hid hC4
       clear hF4 hC4))
  all_goals
    have HH4 := Lib.hid ((HH3.out.grows ((Grows.refl _).drew)).framed HF4.out HC4.out)
    have HR64 := Lib.hid ((HR63.out.grows ((Grows.refl _).drew)).chg HC4.out (by simp; omega))
    have HCC := Lib.hid ((HC3.out.drew).trans (HC4.out.weaken (T := [fp, bt, bw, q, tb, bl]) (fun k hk => Or.inl (by simp at hk ⊢; omega))))
    clear HH3 HR63 HC3 HF4 HC4 HSF HFR lt l6
    have cc := HH4.out.st.tab.count HKQ.out
    have lt := HH4.out.st.tab.row.lt
    have fz := HH4.out.st.tab.row.frozen (6 + kq)
    have kl : kq < 32 := HKQ.out
    go_wp2_with fail
    go_region
    all_goals
      obtain ⟨W5, hW5⟩ : ∃ W5, W5 = World.drew (w4.setCell ⟨tb, 6 + kq, none⟩ (.int .i64 (c kq - 1))) := ⟨_, rfl⟩
      rw [← hW5]
      have HH5 := Lib.hid (show GuAt W5 tb pm fp bl s q N o rt (upC c kq (c kq - 1)) L _ bt bw n first _ O quo low by rw [hW5]; exact (HH4.out.counted HKQ.out (c kq - 1)).grows ((Grows.refl _).drew))
      have HR65 := Lib.hid (show Row W5 b6 #[.bool (eb v 0), .bool (eb v 1), .bool (eb v 2), .bool (eb v 3), .bool (eb v 4), .bool (eb v 5), .bool (eb v 6), .int .i64 (ef v)] 111 by rw [hW5]; exact (row_setOther HR64.out (fun e => hb.2.2.2.2.1 e.symm) _).grows ((Grows.refl _).drew))
      have HC5 := Lib.hid (show Chg [fp, bt, bw, q, tb, bl] w W5 by rw [hW5]; exact (HCC.out.setCell (Or.inl (by simp)) _ _).drew)
      clear hW5 HH4 HR64 HCC cc lt fz
      have c5 := HH5.out.st.tab.count HKQ.out
      have hcv : upC c kq (c kq - 1) kq = c kq - 1 := by unfold upC; rw [if_pos rfl]
      rw [hcv] at c5
      have lt := HH5.out.st.tab.row.lt
      have l6 := HR65.out.lt
      have y7 : W5.cell? ⟨b6, 7, none⟩ = some (.int .i64 (ef v)) := HR65.out.cell 7
    obtain ⟨_, _, _, r3, _, _, lt⟩ := HH5.out.st.tab.cells
    go_wp2_with fail
    clear r3 lt c5 y7 l6 z5 w1
    refine (HPR.out W5 _ _ _ _ _ HH5.out.st).mono ?_
    rintro _ w6 ⟨⟨vv2, rfl⟩, hM6, hC6⟩
    have HH6 := Lib.hid (HH5.out.wrote hM6 hC6)
    have HR66 := Lib.hid (HR65.out.chg hC6 (by simp; omega))
    have HC6 := Lib.hid (HC5.out.trans (hC6.weaken (T := [fp, bt, bw, q, tb, bl]) (fun k hk => Or.inl (by simp at hk ⊢; omega))))
    clear hM6 hC6 HH5 HR65 HC5 HPR
    have lt := HH6.out.st.tab.row.lt
    go_wp2_with fail
    have HSG := Lib.hid (fun (w' : World) (C : Nat → Nat) c' (hs : StAt w' tb pm fp bl s q N (o : Int) rt c' L C) => (⟨hs.tab.cells.2.1, hs.tab.cells.2.2.2.2.2.1, HLK.out w' C c' s rt hs⟩ : w'.cell? ⟨tb, 1, none⟩ = some (.pointer (some ⟨fp, 0, none⟩)) ∧ w'.cell? ⟨tb, 5, none⟩ = some (.map (some bl)) ∧ (Instr.lookup 29 (.map (some bl)) (.int .i64 kq) false).run Tryd.prog w' = .ok (.int .i64 t) w'))
    go_region_held3 (fun w' => w'.cell? ⟨tb, 1, none⟩ = some (.pointer (some ⟨fp, 0, none⟩)) ∧ w'.cell? ⟨tb, 5, none⟩ = some (.map (some bl)) ∧ (Instr.lookup 29 (.map (some bl)) (.int .i64 kq) false).run Tryd.prog w' = .ok (.int .i64 t) w') (first
      | with_reducible exact HSG.out _ _ _ (((HH6.out.grows ((Grows.refl _).drew)).framed HF7.out HC7.out).st)
      | with_reducible exact HSG.out _ _ _ (HH6.out.grows ((Grows.refl _).drew)).st) (first
      | (go_at_call 42; refine (HFT.out _ (HH6.out.grows ((Grows.refl _).drew)).fr).mono ?_; rintro _ w7 ⟨rfl, hF7, hC7⟩
         have HF7 := Lib.hid hF7
         have HC7 := Lib.hid hC7
         clear hF7 hC7))
    all_goals
      have HH7 := Lib.hid ((HH6.out.grows ((Grows.refl _).drew)).framed HF7.out HC7.out)
      have HR67 := Lib.hid ((HR66.out.grows ((Grows.refl _).drew)).chg HC7.out (by simp; omega))
      have HC8 := Lib.hid ((HC6.out.drew).trans (HC7.out.weaken (T := [fp, bt, bw, q, tb, bl]) (fun k hk => Or.inl (by simp at hk ⊢; omega))))
      clear HH6 HR66 HC6 HF7 HC7 HSG HFT HLK lt
      obtain ⟨w8, hrun, hm8, hg8⟩ := HDL.out w7 _ _ _ HH7.out.st
      have HH8 := Lib.hid (HH7.out.mapped hm8 hg8 (fun k' t' hk => by
        unfold imDel at hk
        split at hk
        · cases hk
        · exact HLW.out _ _ hk))
      have hc78 : Chg [bl] w7 w8 := (Chg.refl _ _).grownBy hg8 (fun b hb => by injection hb with hb; subst hb; exact Or.inl (by simp))
      have HR68 := Lib.hid (HR67.out.chg hc78 (by simp; omega))
      have HC9 := Lib.hid (HC8.out.trans (hc78.weaken (T := [fp, bt, bw, q, tb, bl]) (fun k hk => Or.inl (by simp at hk ⊢; omega))))
      obtain ⟨_, _, _, _, _, c5, lt⟩ := HH7.out.st.tab.cells
      have l6 := HR68.out.lt
      have y7 : w8.cell? ⟨b6, 7, none⟩ = some (.int .i64 (ef v)) := HR68.out.cell 7
      clear hm8 hg8 hc78 HR67 HR68 HC8 HH7 HDL
      go_wp2_with fail
      exact bodyPost_ret (v := .tuple #[.int .i64 (ef v), .int .i64 0]) (by simp [results, Tryd.results12, go_sem]) rfl ⟨rfl, HH8.out, HC9.out⟩
end Go.Proofs.YtlchlklbjocliaaDoor

