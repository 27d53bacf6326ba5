/- The package stage with frames: the state of a guest's tables; Map. -/
import Derived.Test.YtlchlklbjocliaaDoorStC
import Derived.Test.YtlchlklbjocliaaDoorFrG
import Derived.Test.YtlchlklbjocliaaDoorFrN
namespace Go.Proofs.YtlchlklbjocliaaDoor
open Go Go.RowKit
set_option linter.unusedSimpArgs false
set_option linter.unusedVariables false
set_option maxRecDepth 100000
def upC (c : Nat → Int) (k : Nat) (v : Int) : Nat → Int := fun i => if i = k then v else c i
theorem tbL_set (pm pf : Nat) (g root : Int) (op : Bool) (bl : Nat) (c : Nat → Int) (v : Int) : ∀ k, k < 32 → (tbL pm pf g root op bl c).set! (6 + k) (.int .i64 v) = tbL pm pf g root op bl (upC c k v)
  | 0, _ => rfl
  | 1, _ => rfl
  | 2, _ => rfl
  | 3, _ => rfl
  | 4, _ => rfl
  | 5, _ => rfl
  | 6, _ => rfl
  | 7, _ => rfl
  | 8, _ => rfl
  | 9, _ => rfl
  | 10, _ => rfl
  | 11, _ => rfl
  | 12, _ => rfl
  | 13, _ => rfl
  | 14, _ => rfl
  | 15, _ => rfl
  | 16, _ => rfl
  | 17, _ => rfl
  | 18, _ => rfl
  | 19, _ => rfl
  | 20, _ => rfl
  | 21, _ => rfl
  | 22, _ => rfl
  | 23, _ => rfl
  | 24, _ => rfl
  | 25, _ => rfl
  | 26, _ => rfl
  | 27, _ => rfl
  | 28, _ => rfl
  | 29, _ => rfl
  | 30, _ => rfl
  | 31, _ => rfl
  | k + 32, h => by omega
theorem tbL_get (pm pf : Nat) (g root : Int) (op : Bool) (bl : Nat) (c : Nat → Int) : ∀ k, k < 32 → (tbL pm pf g root op bl c)[6 + k]? = some (.int .i64 (c k))
  | 0, _ => rfl
  | 1, _ => rfl
  | 2, _ => rfl
  | 3, _ => rfl
  | 4, _ => rfl
  | 5, _ => rfl
  | 6, _ => rfl
  | 7, _ => rfl
  | 8, _ => rfl
  | 9, _ => rfl
  | 10, _ => rfl
  | 11, _ => rfl
  | 12, _ => rfl
  | 13, _ => rfl
  | 14, _ => rfl
  | 15, _ => rfl
  | 16, _ => rfl
  | 17, _ => rfl
  | 18, _ => rfl
  | 19, _ => rfl
  | 20, _ => rfl
  | 21, _ => rfl
  | 22, _ => rfl
  | 23, _ => rfl
  | 24, _ => rfl
  | 25, _ => rfl
  | 26, _ => rfl
  | 27, _ => rfl
  | 28, _ => rfl
  | 29, _ => rfl
  | 30, _ => rfl
  | 31, _ => rfl
  | k + 32, h => by omega
theorem TbAt.count {w : World} {tb pm pf bl : Nat} {g root : Int} {op : Bool} {c : Nat → Int} (h : TbAt w tb pm pf bl g root op c) {k : Nat} (hk : k < 32) : w.cell? ⟨tb, 6 + k, none⟩ = some (.int .i64 (c k)) := by
  rw [h.row.cell]; exact tbL_get pm pf g root op bl c k hk
theorem TbAt.setCount {w : World} {tb pm pf bl : Nat} {g root : Int} {op : Bool} {c : Nat → Int} (h : TbAt w tb pm pf bl g root op c) {k : Nat} (hk : k < 32) (v : Int) : TbAt (w.setCell ⟨tb, 6 + k, none⟩ (.int .i64 v)) tb pm pf bl g root op (upC c k v) := by
  have h1 := row_setCell h.row (i := 6 + k) (by show 6 + k < 38; omega) (.int .i64 v)
  refine ⟨?_⟩
  have hsz : 6 + k < (tbL pm pf g root op bl c).size := by show 6 + k < 38; omega
  rw [← tbL_set pm pf g root op bl c v k hk, Array.set!_eq_setIfInBounds, Array.setIfInBounds_def, dif_pos hsz]
  exact h1
/-- A guest's tables, open, with their memory and their frames. -/
structure GuAt (w : World) (tb pm fp bl s q N o : Nat) (root : Int) (c : Nat → Int) (L : Int → Option Int) (B : Nat → Nat) (bt bw n first : Nat) (T O : Nat → Nat) (quo : Nat → Int) (low : Nat) : Prop where
  st : StAt w tb pm fp bl s q N (o : Int) root c L B
  fr : FrAt w fp bt bw n first T O quo low
  hnN : n ≤ N / 256
  apq : pm ≠ fp ∧ pm ≠ bt ∧ pm ≠ bw ∧ q ≠ fp ∧ q ≠ bt ∧ q ≠ bw
  apt : tb ≠ fp ∧ tb ≠ bt ∧ tb ≠ bw ∧ tb ≠ pm ∧ tb ≠ bl
  apl : bl ≠ fp ∧ bl ≠ bt ∧ bl ≠ bw ∧ bl ≠ pm
  apg : ∀ b, b = fp ∨ b = bt ∨ b = bw ∨ b = tb ∨ b = bl → b ≠ 1 ∧ b ≠ 0
theorem Widths.chgS {S : List Nat} {w w' : World} (h : Widths w) (hc : Chg S w w') (hq : 1 ∉ S) : Widths w' :=
  ⟨hc.lt h.1, fun i => by rw [hc.cell h.1 hq]; exact h.2 i⟩
theorem Places.chgS {S : List Nat} {w w' : World} (h : Places w) (hc : Chg S w w') (hq : 0 ∉ S) : Places w' :=
  ⟨hc.lt h.1, fun i => by rw [hc.cell h.1 hq]; exact h.2 i⟩
theorem GuAt.grows {w w' : World} {tb pm fp bl s q N o : Nat} {root : Int} {c : Nat → Int} {L : Int → Option Int} {B : Nat → Nat} {bt bw n first : Nat} {T O : Nat → Nat} {quo : Nat → Int} {low : Nat} (h : GuAt w tb pm fp bl s q N o root c L B bt bw n first T O quo low) (hg : Grows w w') : GuAt w' tb pm fp bl s q N o root c L B bt bw n first T O quo low :=
  ⟨h.st.grows hg, h.fr.grows hg, h.hnN, h.apq, h.apt, h.apl, h.apg⟩
/-- The frames, or the memory, or both were changed. -/
theorem GuAt.both {w w' : World} {tb pm fp bl s q N o : Nat} {root : Int} {c : Nat → Int} {L : Int → Option Int} {B C : Nat → Nat} {bt bw n first : Nat} {T O T' O' : Nat → Nat} {quo : Nat → Int} {low low' : Nat} (h : GuAt w tb pm fp bl s q N o root c L B bt bw n first T O quo low) (hf : FrAt w' fp bt bw n first T' O' quo low') (hm : Mem w' pm q N C) (hc : Chg [fp, bt, bw, q] w w') : GuAt w' tb pm fp bl s q N o root c L C bt bw n first T' O' quo low' := by
  have s1 := h.st.sep
  have s2 := h.apt
  have s3 := h.apl
  have g1 := h.apg fp (Or.inl rfl)
  have g2 := h.apg bt (Or.inr (Or.inl rfl))
  have g3 := h.apg bw (Or.inr (Or.inr (Or.inl rfl)))
  exact ⟨⟨h.st.tab.chg hc (by simp; omega), h.st.map.of_block (hc.get h.st.map.lt (by simp; omega)), hm, h.st.wid.chgS hc (by simp; omega), h.st.pla.chgS hc (by simp; omega), h.st.low, h.st.sep⟩, hf, h.hnN, h.apq, h.apt, h.apl, h.apg⟩
theorem GuAt.framed {w w' : World} {tb pm fp bl s q N o : Nat} {root : Int} {c : Nat → Int} {L : Int → Option Int} {B : Nat → Nat} {bt bw n first : Nat} {T O T' O' : Nat → Nat} {quo : Nat → Int} {low low' : Nat} (h : GuAt w tb pm fp bl s q N o root c L B bt bw n first T O quo low) (hf : FrAt w' fp bt bw n first T' O' quo low') (hc : Chg [fp, bt, bw] w w') : GuAt w' tb pm fp bl s q N o root c L B bt bw n first T' O' quo low' :=
  h.both hf (MemAt.chg h.st.mem hc (by have := h.apq; simp; omega) (by have := h.apq; simp; omega)) (hc.weaken (fun k hk => Or.inl (by simp at hk ⊢; omega)))
theorem GuAt.wrote {w w' : World} {tb pm fp bl s q N o : Nat} {root : Int} {c : Nat → Int} {L : Int → Option Int} {B C : Nat → Nat} {bt bw n first : Nat} {T O : Nat → Nat} {quo : Nat → Int} {low : Nat} (h : GuAt w tb pm fp bl s q N o root c L B bt bw n first T O quo low) (hm : Mem w' pm q N C) (hc : Chg [q] w w') : GuAt w' tb pm fp bl s q N o root c L C bt bw n first T O quo low :=
  h.both (h.fr.chg hc (by have := h.apq; simp; omega)) hm (hc.weaken (by simp))
theorem GuAt.lts {w : World} {tb pm fp bl s q N o : Nat} {root : Int} {c : Nat → Int} {L : Int → Option Int} {B : Nat → Nat} {bt bw n first : Nat} {T O : Nat → Nat} {quo : Nat → Int} {low : Nat} (h : GuAt w tb pm fp bl s q N o root c L B bt bw n first T O quo low) : fp < w.heap.size ∧ bt < w.heap.size ∧ bw < w.heap.size ∧ q < w.heap.size ∧ tb < w.heap.size ∧ bl < w.heap.size := by
  obtain ⟨s', g, _, g2, _⟩ := h.fr.wh
  exact ⟨h.fr.row.lt, h.fr.tm.lt, g2.lt, h.st.mem.qlt, h.st.tab.row.lt, h.st.map.lt⟩
theorem GuAt.counted {w : World} {tb pm fp bl s q N o : Nat} {root : Int} {c : Nat → Int} {L : Int → Option Int} {B : Nat → Nat} {bt bw n first : Nat} {T O : Nat → Nat} {quo : Nat → Int} {low : Nat} (h : GuAt w tb pm fp bl s q N o root c L B bt bw n first T O quo low) {k : Nat} (hk : k < 32) (v : Int) : GuAt (w.setCell ⟨tb, 6 + k, none⟩ (.int .i64 v)) tb pm fp bl s q N o root (upC c k v) L B bt bw n first T O quo low := by
  have hc : Chg [tb] w (w.setCell ⟨tb, 6 + k, none⟩ (.int .i64 v)) := (Chg.refl _ _).setCell (Or.inl (by simp)) _ _
  have s1 := h.st.sep
  have s2 := h.apt
  have g1 := h.apg tb (Or.inr (Or.inr (Or.inr (Or.inl rfl))))
  exact ⟨⟨h.st.tab.setCount hk v, h.st.map.of_block (hc.get h.st.map.lt (by simp; omega)), MemAt.chg h.st.mem hc (by simp; omega) (by simp; omega), h.st.wid.chgS hc (by simp; omega), h.st.pla.chgS hc (by simp; omega), h.st.low, h.st.sep⟩, h.fr.chg hc (by simp; omega), h.hnN, h.apq, h.apt, h.apl, h.apg⟩
set_option maxHeartbeats 4000000 in
theorem Map_there {w : World} {tb pm fp bl s q N o : Nat} {root : Int} {c : Nat → Int} {L : Int → Option Int} {B : Nat → Nat} {bt bw n first : Nat} {T O : Nat → Nat} {quo : Nat → Int} {low : Nat} (h : GuAt w tb pm fp bl s q N o root c L B bt bw n first T O quo low) {page j : Nat} (hp : page < 1024) (r x1 x2 : Bool) (hr : rightR r x1 x2 = true) (hj : j < N / 256) (hg : gok (rdP N B L page) = true) :
    Calls Tryd.prog 16 #[.pointer (some ⟨tb, 0, none⟩), .int .i64 page, .int .i64 j, .agg #[.bool r, .bool x1, .bool x2]] w fun e w' => e = .returned (.int .i64 13) ∧ Grows w w' := by
  have HH := Lib.hid h
  have hsr := fun W => srights_any r x1 x2 W
  rw [hr] at hsr
  have hip := fun W => isPage_ok hp W
  have hge := fun W (hg : Grows w W) => sget_any (h.st.grows hg) hp
  rw [hg] at hge
  unfold entA at hge
  have HGE := Lib.hid hge
  have q5 : decide (((N / 256 : Nat) : Int) ≤ (j : Int)) = false := decide_eq_false (by omega)
  have hfm := fun W (h : Mem W pm q N B) => frames_any h
  obtain ⟨NF, hNF⟩ : ∃ NF, NF = N / 256 := ⟨_, rfl⟩
  rw [← hNF] at hfm q5
  have HFM := Lib.hid hfm
  have hjF : j < NF := by omega
  clear hNF hfm
  have q6 : decide ((j : Int) < 0) = false := decide_eq_false (by omega)
  clear h hr hg hge hp hj
  go_enter Tryd.func16, Tryd.ntmps16
  go_wp2_with fail
  obtain ⟨b7, hb7⟩ : ∃ b, b = w.heap.size := ⟨_, rfl⟩
  obtain ⟨W1, hW1⟩ : ∃ W1, W1 = w.alloc (Obj.cells #[.bool r, .bool x1, .bool x2] 23) := ⟨_, rfl⟩
  rw [← hW1, ← hb7]
  have hr7 : Row W1 b7 #[.bool r, .bool x1, .bool x2] 23 := by rw [hW1]; exact Row.new_at _ _ _ hb7
  have hg1 : Grows w W1 := by rw [hW1]; exact (Grows.refl _).alloc _
  have HB7 := Lib.hid (show w.heap.size ≤ b7 by omega)
  have HH1 := Lib.hid (HH.out.grows hg1)
  clear hW1 hb7
  refine (usable_open HH1.out.st.tab).mono ?_
  rintro _ _ ⟨rfl, hw⟩
  rw [hw]
  clear hw
  have l7 := hr7.lt
  have y0 : W1.cell? ⟨b7, 0, none⟩ = some (.bool r) := hr7.cell 0
  have y1 : W1.cell? ⟨b7, 1, none⟩ = some (.bool x1) := hr7.cell 1
  have y2 : W1.cell? ⟨b7, 2, none⟩ = some (.bool x2) := hr7.cell 2
  go_wp2_with fail
  refine (hip _).mono ?_
  rintro _ _ ⟨rfl, hw⟩
  rw [hw]
  clear hw
  go_wp2_with fail
  refine (hsr _).mono ?_
  rintro _ w2 ⟨rfl, hg2⟩
  have HH2 := Lib.hid (HH1.out.grows hg2)
  have HR72 := Lib.hid (hr7.grows hg2)
  have HG2 := Lib.hid (hg1.trans hg2)
  obtain ⟨c0, c1, c2, _, _, c5, lt⟩ := HH2.out.st.tab.cells
  clear hg1 hg2 hr7 HH1 HH hsr hip y0 y1 y2 l7
  go_wp2_with fail
  refine (HFM.out _ HH2.out.st.mem).mono ?_
  rintro _ _ ⟨rfl, hw⟩
  rw [hw]
  clear hw
  go_wp2_with fail
  refine (HGE.out _ HG2.out).mono ?_
  rintro _ w3 ⟨rfl, hg3⟩
  have HH3 := Lib.hid (HH2.out.grows hg3)
  have HR73 := Lib.hid (HR72.out.grows hg3)
  have HG3 := Lib.hid (HG2.out.trans hg3)
  clear hg3 HR72 HG2 HGE c0 c1 c2 c5 lt HH2
  go_wp2_with fail
  go_ret
  exact ⟨rfl, HG3.out.alloc _⟩
set_option maxHeartbeats 4000000 in
theorem Map_low {w : World} {tb pm fp bl s q N o : Nat} {root : Int} {c : Nat → Int} {L : Int → Option Int} {B : Nat → Nat} {bt bw n first : Nat} {T O : Nat → Nat} {quo : Nat → Int} {low : Nat} (h : GuAt w tb pm fp bl s q N o root c L B bt bw n first T O quo low) {page j t : Nat} (hp : page < 1024) (r x1 x2 : Bool) (hr : rightR r x1 x2 = true) (hj : j < n) (hg : gok (rdP N B L page) = false) (hT0 : 0 < T j) (hT : T j < 65536) (hO : O j = o) (hl : L ((page / 32 : Nat) : Int) = some (t : Int)) (hin : t * 256 + 256 ≤ N) (hck : 0 ≤ c (page / 32) ∧ c (page / 32) ≤ 1024) :
    Calls Tryd.prog 16 #[.pointer (some ⟨tb, 0, none⟩), .int .i64 page, .int .i64 j, .agg #[.bool r, .bool x1, .bool x2]] w fun e w' => e = .returned (.int .i64 0) ∧ GuAt w' tb pm fp bl s q N o root (upC c (page / 32) (c (page / 32) + 1)) L (putB B (t * 256 + 8 * (page % 32)) (leB (packN true r x1 x2 true false false j) 8)) bt bw n first (upF T j (T j + 1)) O quo low ∧ Chg [fp, bt, bw, q, tb] w w' := by
  have HH := Lib.hid h
  have HLT := Lib.hid h.lts
  have hsr := fun W => srights_any r x1 x2 W
  rw [hr] at hsr
  have hip := fun W => isPage_ok hp W
  have hge := fun W (hg : Grows w W) => sget_any (h.st.grows hg) hp
  rw [hg, entA_no hg] at hge
  unfold zeroE at hge
  have HGE := Lib.hid hge
  have hjN := Nat.lt_of_lt_of_le hj h.hnN
  have q5 : decide (((N / 256 : Nat) : Int) ≤ (j : Int)) = false := decide_eq_false (by omega)
  have hfm := fun W (h : Mem W pm q N B) => frames_any h
  obtain ⟨NF, hNF⟩ : ∃ NF, NF = N / 256 := ⟨_, rfl⟩
  rw [← hNF] at hfm q5
  have HFM := Lib.hid hfm
  have hjF : j < NF := by omega
  clear hNF hfm
  have q6 : decide ((j : Int) < 0) = false := decide_eq_false (by omega)
  have ht := (h.st.low _ _ hl).2
  have HLO := Lib.hid (fun W C c' s' root' (h : StAt W tb pm fp bl s' q N (o : Int) root' c' L C) => (h.map.look_ok Tryd.underlying3 Tryd.underlying3 Tryd.underlying29 (zero_int' W) (K := ((page / 32 : Nat) : Int)) (wf_of (by omega) (by omega))).1)
  have hlk := fun W C c' s' root' (h : StAt W tb pm fp bl s' q N (o : Int) root' c' L C) => h.look (k := page / 32) (by omega) hl
  rw [hl] at HLO
  simp only [Option.getD_some, Option.isSome_some] at HLO
  have hlf := fun W => sleaf_any r x1 x2 j W
  unfold pgL at hlf
  have hpu := fun W C c' s' root' (h : StAt W tb pm fp bl s' q N (o : Int) root' c' L C) => put_any h.tab h.mem h.wid h.pla (t := t) (pl := page % 32) (by omega) (by omega) (by omega) h.sep.1 true r x1 x2 true false false j
  have how := fun W (h : FrAt W fp bt bw n first T O quo low) => Owner_some h hj hT0
  rw [hO] at how
  have hho := fun W (h : FrAt W fp bt bw n first T O quo low) => Hold_ok h hj hT hT0 hO
  have HPU := Lib.hid hpu
  have HLF := Lib.hid hlf
  have HLK := Lib.hid hlk
  have HOW := Lib.hid how
  have HHO := Lib.hid hho
  have HKQ := Lib.hid (show page / 32 < 32 by omega)
  have w1 : IntKind.i64.wrap (c (page / 32) + 1) = c (page / 32) + 1 := by rw [IntKind.wrap_i64]; omega
  obtain ⟨q1, q2, q3, q4⟩ := pageQR hp
  generalize page / 32 = kq at *
  generalize page % 32 = pr at *
  clear h hr hg hge hp hj hl hin hpu hlf hlk how hho hO hT hT0 hck hjN ht
  go_enter Tryd.func16, Tryd.ntmps16
  go_wp2_with fail
  obtain ⟨b7, hb7⟩ : ∃ b, b = w.heap.size := ⟨_, rfl⟩
  obtain ⟨W1, hW1⟩ : ∃ W1, W1 = w.alloc (Obj.cells #[.bool r, .bool x1, .bool x2] 23) := ⟨_, rfl⟩
  rw [← hW1, ← hb7]
  have hr7 : Row W1 b7 #[.bool r, .bool x1, .bool x2] 23 := by rw [hW1]; exact Row.new_at _ _ _ hb7
  have hg1 : Grows w W1 := by rw [hW1]; exact (Grows.refl _).alloc _
  have HB7 := Lib.hid (show w.heap.size ≤ b7 by omega)
  have HH1 := Lib.hid (HH.out.grows hg1)
  clear hW1 hb7
  refine (usable_open HH1.out.st.tab).mono ?_
  rintro _ _ ⟨rfl, hw⟩
  rw [hw]
  clear hw
  have l7 := hr7.lt
  have y0 : W1.cell? ⟨b7, 0, none⟩ = some (.bool r) := hr7.cell 0
  have y1 : W1.cell? ⟨b7, 1, none⟩ = some (.bool x1) := hr7.cell 1
  have y2 : W1.cell? ⟨b7, 2, none⟩ = some (.bool x2) := hr7.cell 2
  go_wp2_with fail
  refine (hip _).mono ?_
  rintro _ _ ⟨rfl, hw⟩
  rw [hw]
  clear hw
  go_wp2_with fail
  refine (hsr _).mono ?_
  rintro _ w2 ⟨rfl, hg2⟩
  have HH2 := Lib.hid (HH1.out.grows hg2)
  have HR72 := Lib.hid (hr7.grows hg2)
  have HG2 := Lib.hid (hg1.trans hg2)
  obtain ⟨c0, c1, c2, _, _, c5, lt⟩ := HH2.out.st.tab.cells
  clear hg1 hg2 hr7 HH1 HH hsr hip y0 y1 y2 l7
  go_wp2_with fail
  refine (HFM.out _ HH2.out.st.mem).mono ?_
  rintro _ _ ⟨rfl, hw⟩
  rw [hw]
  clear hw
  go_wp2_with fail
  refine (HGE.out _ HG2.out).mono ?_
  rintro _ w3 ⟨rfl, hg3⟩
  have HH3 := Lib.hid (HH2.out.grows hg3)
  have HR73 := Lib.hid (HR72.out.grows hg3)
  have HG3 := Lib.hid (HG2.out.trans hg3)
  clear hg3 HR72 HG2 HGE c0 c1 c2 c5 lt HH2
  go_upto_region 9 with fail
  obtain ⟨W4, hW4⟩ : ∃ W4, W4 = w3.alloc (Obj.cells #[.bool false, .bool false, .bool false, .bool false, .bool false, .bool false, .bool false, .int .i64 0] 111) := ⟨_, rfl⟩
  rw [← hW4]
  have hg4 : Grows w3 W4 := by rw [hW4]; exact (Grows.refl _).alloc _
  have HH4 := Lib.hid (HH3.out.grows hg4)
  have HR74 := Lib.hid (HR73.out.grows hg4)
  have HG4 := Lib.hid (HG3.out.trans hg4)
  clear hW4 hg4 HH3 HR73 HG3
  obtain ⟨_, c1, c2, _, _, _, lt⟩ := HH4.out.st.tab.cells
  have how4 := HOW.out _ HH4.out.fr
  go_wp2_with fail
  refine how4.mono ?_
  clear how4 c1 c2 lt HOW q5 q6
  rintro _ w5 ⟨rfl, hg5⟩
  have HH5 := Lib.hid (HH4.out.grows hg5)
  have HR75 := Lib.hid (HR74.out.grows hg5)
  have HG5 := Lib.hid (HG4.out.trans hg5)
  clear hg5 HH4 HR74 HG4
  obtain ⟨_, _, c2, _, _, _, lt⟩ := HH5.out.st.tab.cells
  go_wp2_with fail
  clear c2
  have HSG := Lib.hid (fun (w' : World) (h : TbAt w' tb pm fp bl (o : Int) root true c) => (⟨h.cells.2.1, h.cells.2.2.1⟩ : w'.cell? ⟨tb, 1, none⟩ = some (.pointer (some ⟨fp, 0, none⟩)) ∧ w'.cell? ⟨tb, 2, none⟩ = some (.int .i64 o)))
  go_region_held3 (fun w' => w'.cell? ⟨tb, 1, none⟩ = some (.pointer (some ⟨fp, 0, none⟩)) ∧ w'.cell? ⟨tb, 2, none⟩ = some (.int .i64 o)) (first
    | with_reducible exact HSG.out _ (((HH5.out.grows ((Grows.refl _).drew)).framed HF6.out HC6.out).st.tab)
    | with_reducible exact HSG.out _ (HH5.out.grows ((Grows.refl _).drew)).st.tab) (first
    | (go_at_call 41; refine (HHO.out _ (HH5.out.grows ((Grows.refl _).drew)).fr).mono ?_; rintro _ w6 ⟨rfl, hF6, hC6⟩
       have HF6 := Lib.hid hF6
       have HC6 := Lib.hid hC6
       clear hF6 hC6))
  all_goals
    have HH6 := Lib.hid ((HH5.out.grows ((Grows.refl _).drew)).framed HF6.out HC6.out)
    have hb : b7 ≠ fp ∧ b7 ≠ bt ∧ b7 ≠ bw ∧ b7 ≠ q ∧ b7 ≠ tb := by have := HLT.out; have := HB7.out; omega
    have HR76 := Lib.hid ((HR75.out.grows ((Grows.refl _).drew)).chg HC6.out (by simp; omega))
    have HC := Lib.hid ((Chg.of_grows (S := [fp, bt, bw]) (HG5.out.drew)).trans HC6.out)
    clear HH5 HR75 HG5 HF6 HC6 HSG HHO lt
    have hlo6 := HLO.out w6 _ _ _ _ HH6.out.st
    obtain ⟨_, _, _, _, _, c5, lt⟩ := HH6.out.st.tab.cells
    go_wp2_with fail
    clear hlo6 c5
    have l7 := HR76.out.lt
    have HSL := Lib.hid (fun (w' : World) (C : Nat → Nat) (hs : StAt w' tb pm fp bl s q N (o : Int) root c L C) (h7 : Row w' b7 #[.bool r, .bool x1, .bool x2] 23) => (⟨hs.tab.cells.2.2.2.2.2.1, HLK.out w' C c s root hs, h7.cell 0, h7.cell 1, h7.cell 2⟩ : w'.cell? ⟨tb, 5, none⟩ = some (.map (some bl)) ∧ (Instr.lookup 29 (.map (some bl)) (.int .i64 kq) false).run Tryd.prog w' = .ok (.int .i64 t) w' ∧ w'.cell? ⟨b7, 0, none⟩ = some (.bool r) ∧ w'.cell? ⟨b7, 1, none⟩ = some (.bool x1) ∧ w'.cell? ⟨b7, 2, none⟩ = some (.bool x2)))
    go_region_held3 (fun w' => w'.cell? ⟨tb, 5, none⟩ = some (.map (some bl)) ∧ (Instr.lookup 29 (.map (some bl)) (.int .i64 kq) false).run Tryd.prog w' = .ok (.int .i64 t) w' ∧ w'.cell? ⟨b7, 0, none⟩ = some (.bool r) ∧ w'.cell? ⟨b7, 1, none⟩ = some (.bool x1) ∧ w'.cell? ⟨b7, 2, none⟩ = some (.bool x2)) (first
      | with_reducible exact HSL.out _ _ ((HH6.out.st.grows HG7.out).wrote HM8.out HC8.out) ((HR76.out.grows HG7.out).chg HC8.out (by simp; omega))
      | with_reducible exact HSL.out _ _ (HH6.out.st.grows HG7.out) (HR76.out.grows HG7.out)
      | with_reducible exact HSL.out _ _ (HH6.out.st.grows ((Grows.refl _).drew)) (HR76.out.grows ((Grows.refl _).drew))) (first
      | (go_at_call 53; refine (HLF.out _).mono ?_; rintro _ w7 ⟨rfl, hg7⟩
         have HG7 : Hid (Grows w6 w7) := Lib.hid (((Grows.refl _).drew).trans hg7)
         clear hg7)
      | (go_at_call 45; refine (HPU.out _ _ _ _ _ (HH6.out.st.grows HG7.out)).mono ?_; rintro _ w8 ⟨⟨vv, rfl⟩, hM8, hC8⟩
         have HM8 := Lib.hid hM8
         have HC8 := Lib.hid hC8
         clear hM8 hC8))
    all_goals
      have HH8 := Lib.hid ((HH6.out.grows HG7.out).wrote HM8.out HC8.out)
      have HCC := Lib.hid (((HC.out.weaken (T := [fp, bt, bw, q, tb]) (fun k hk => Or.inl (by simp at hk ⊢; omega))).trans (Chg.of_grows HG7.out)).trans (HC8.out.weaken (T := [fp, bt, bw, q, tb]) (fun k hk => Or.inl (by simp at hk ⊢; omega))))
      have cc := HH8.out.st.tab.count HKQ.out
      have lt8 := HH8.out.st.tab.row.lt
      have fz := HH8.out.st.tab.row.frozen (6 + kq)
      have kl : kq < 32 := HKQ.out
      clear HH6 HR76 HC HG7 HM8 HC8 HSL HLK HPU HLF HLO lt l7
      go_wp2_with fail
      go_region
      all_goals
        go_wp2_with fail
        go_ret
        exact ⟨rfl, (HH8.out.counted HKQ.out _).grows ((Grows.refl _).drew), (HCC.out.setCell (Or.inl (by simp)) _ _).drew⟩
end Go.Proofs.YtlchlklbjocliaaDoor
