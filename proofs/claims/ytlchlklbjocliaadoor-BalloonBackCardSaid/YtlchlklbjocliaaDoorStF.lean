/- The package stage: Unmap. -/
import Derived.Test.YtlchlklbjocliaaDoorStE
namespace Go.Proofs.YtlchlklbjocliaaDoor
open Go Go.RowKit
set_option linter.unusedSimpArgs false
set_option linter.unusedVariables false
set_option maxRecDepth 100000
theorem Unmap_none {w : World} {tb pm fp bl s q N o rt : Nat} {c : Nat → Int} {L : Int → Option Int} {B : Nat → Nat} {bt bw n first : Nat} {T O : Nat → Nat} {quo : Nat → Int} {low : Nat} (h : GuAt w tb pm fp bl s q N o (rt : Int) c L B bt bw n first T O quo low) {page : Nat} (hp : page < 1024) (hg : gok (rdP N B L page) = false) :
    Calls Tryd.prog 12 #[.pointer (some ⟨tb, 0, none⟩), .int .i64 page] w fun e w' => e = .returned (.tuple #[.int .i64 0, .int .i64 14]) ∧ Grows w w' := by
  have hma := mapped_any h.st hp
  rw [hg, entA_no hg] at hma
  unfold zeroE at hma
  clear h hg hp
  go_enter Tryd.func12, Tryd.ntmps12
  go_wp2_with fail
  refine hma.mono ?_
  rintro _ w1 ⟨rfl, hg1⟩
  clear hma
  go_wp2_with fail
  exact bodyPost_ret (v := .tuple #[.int .i64 0, .int .i64 14]) (by simp [results, Tryd.results12, go_sem]) rfl ⟨rfl, hg1.alloc _⟩
set_option maxHeartbeats 4000000 in
theorem Unmap_more {w : World} {tb pm fp bl s q N o rt : Nat} {c : Nat → Int} {L : Int → Option Int} {B : Nat → Nat} {bt bw n first : Nat} {T O : Nat → Nat} {quo : Nat → Int} {low : Nat} (h : GuAt w tb pm fp bl s q N o (rt : Int) c L B bt bw n first T O quo low) {page : Nat} (hp : page < 1024) {t : Nat} (hg : gok (rdP N B L page) = true) (hl : L ((page / 32 : Nat) : Int) = some (t : Int)) (hin : t * 256 + 256 ≤ N) (hfn : ef (rdP N B L page) < n) (hT1 : 1 < T (ef (rdP N B L page))) (hO : O (ef (rdP N B L page)) = o) (hff : first ≤ ef (rdP N B L page)) (hck : 2 ≤ c (page / 32) ∧ c (page / 32) ≤ 1024) :
    Calls Tryd.prog 12 #[.pointer (some ⟨tb, 0, none⟩), .int .i64 page] w fun e w' => e = .returned (.tuple #[.int .i64 (ef (rdP N B L page)), .int .i64 0]) ∧ GuAt w' tb pm fp bl s q N o rt (upC c (page / 32) (c (page / 32) - 1)) L (putB B (t * 256 + 8 * (page % 32)) (leB (packN false false false false false false false 0) 8)) bt bw n first (upF T (ef (rdP N B L page)) (T (ef (rdP N B L page)) - 1)) O quo low ∧ Chg [fp, bt, bw, q, tb, bl] w w' := by
  have HH := Lib.hid h
  have HLT := Lib.hid h.lts
  have hma := mapped_any h.st hp
  have hen : entA (rdP N B L page) = #[.bool (eb (rdP N B L page) 0), .bool (eb (rdP N B L page) 1), .bool (eb (rdP N B L page) 2), .bool (eb (rdP N B L page) 3), .bool (eb (rdP N B L page) 4), .bool (eb (rdP N B L page) 5), .bool (eb (rdP N B L page) 6), .int .i64 (ef (rdP N B L page))] := rfl
  rw [hg, hen] at hma
  have HMA := Lib.hid hma
  have ht := (h.st.low _ _ hl).2
  have HLK := Lib.hid (fun W C c' s' root' (h : StAt W tb pm fp bl s' q N (o : Int) root' c' L C) => h.look (k := page / 32) (by omega) hl)
  have HPU := Lib.hid (fun W C c' s' root' (h : StAt W tb pm fp bl s' q N (o : Int) root' c' L C) => put_any h.tab h.mem h.wid h.pla (t := t) (pl := page % 32) (by omega) (by omega) (by omega) h.sep.1 false false false false false false false 0)
  have HFR := Lib.hid (fun W (hF : FrAt W fp bt bw n first T O quo low) => Free_more hF hfn hT1 hO hff)
  have HKQ := Lib.hid (show page / 32 < 32 by omega)
  have w1 : IntKind.i64.wrap (c (page / 32) - 1) = c (page / 32) - 1 := by rw [IntKind.wrap_i64]; omega
  have z5 : (c (page / 32) - 1 == 0) = false := by simp; omega
  obtain ⟨q1, q2, q3, q4⟩ := pageQR hp
  generalize rdP N B L page = v at *
  generalize page / 32 = kq at *
  generalize page % 32 = pr at *
  clear h hg hp hl hin hfn hT1 hO hff hck hma hen ht
  go_enter Tryd.func12, Tryd.ntmps12
  go_wp2_with fail
  refine HMA.out.mono ?_
  rintro _ w1 ⟨rfl, hg1⟩
  clear HMA
  go_upto_region 2 with fail
  obtain ⟨b6, hb6⟩ : ∃ b, b = w1.heap.size := ⟨_, rfl⟩
  obtain ⟨W2, hW2⟩ : ∃ W2, W2 = w1.alloc (Obj.cells #[.bool (eb v 0), .bool (eb v 1), .bool (eb v 2), .bool (eb v 3), .bool (eb v 4), .bool (eb v 5), .bool (eb v 6), .int .i64 (ef v)] 111) := ⟨_, rfl⟩
  rw [← hW2, ← hb6]
  have hg12 : Grows w1 W2 := by rw [hW2]; exact (Grows.refl _).alloc _
  have HR6 := Lib.hid (show Row W2 b6 #[.bool (eb v 0), .bool (eb v 1), .bool (eb v 2), .bool (eb v 3), .bool (eb v 4), .bool (eb v 5), .bool (eb v 6), .int .i64 (ef v)] 111 by rw [hW2]; exact Row.new_at _ _ _ hb6)
  have hb : b6 ≠ fp ∧ b6 ≠ bt ∧ b6 ≠ bw ∧ b6 ≠ q ∧ b6 ≠ tb ∧ b6 ≠ bl := by have := HLT.out; have := hg1.size; omega
  have HH2 := Lib.hid (HH.out.grows (hg1.trans hg12))
  have HC2 := Lib.hid (Chg.of_grows (S := [fp, bt, bw, q, tb, bl]) (hg1.trans hg12))
  clear hW2 hb6 hg1 hg12 HH
  obtain ⟨_, _, _, _, _, c5, lt⟩ := HH2.out.st.tab.cells
  have hlk2 := HLK.out W2 _ _ _ _ HH2.out.st
  go_wp2_with fail
  clear hlk2 c5 lt
  refine (HPU.out _ _ _ _ _ HH2.out.st).mono ?_
  rintro _ w3 ⟨⟨vv, rfl⟩, hM3, hC3⟩
  have HH3 := Lib.hid (HH2.out.wrote hM3 hC3)
  have HR63 := Lib.hid (HR6.out.chg hC3 (by simp; omega))
  have HC3 := Lib.hid (HC2.out.trans (hC3.weaken (T := [fp, bt, bw, q, tb, bl]) (fun k hk => Or.inl (by simp at hk ⊢; omega))))
  clear hM3 hC3 HH2 HR6 HC2 HPU
  have lt := HH3.out.st.tab.row.lt
  have l6 := HR63.out.lt
  go_wp2_with fail
  have HSF := Lib.hid (fun (w' : World) (h : TbAt w' tb pm fp bl (o : Int) rt true c) (h6 : Row w' b6 #[.bool (eb v 0), .bool (eb v 1), .bool (eb v 2), .bool (eb v 3), .bool (eb v 4), .bool (eb v 5), .bool (eb v 6), .int .i64 (ef v)] 111) => (⟨h.cells.2.1, h.cells.2.2.1, h6.cell 7⟩ : w'.cell? ⟨tb, 1, none⟩ = some (.pointer (some ⟨fp, 0, none⟩)) ∧ w'.cell? ⟨tb, 2, none⟩ = some (.int .i64 o) ∧ w'.cell? ⟨b6, 7, none⟩ = some (.int .i64 (ef v))))
  go_region_held3 (fun w' => w'.cell? ⟨tb, 1, none⟩ = some (.pointer (some ⟨fp, 0, none⟩)) ∧ w'.cell? ⟨tb, 2, none⟩ = some (.int .i64 o) ∧ w'.cell? ⟨b6, 7, none⟩ = some (.int .i64 (ef v))) (first
    | with_reducible exact HSF.out _ (((HH3.out.grows ((Grows.refl _).drew)).framed HF4.out HC4.out).st.tab) ((HR63.out.grows ((Grows.refl _).drew)).chg HC4.out (by simp; omega))
    | with_reducible exact HSF.out _ (HH3.out.grows ((Grows.refl _).drew)).st.tab (HR63.out.grows ((Grows.refl _).drew))) (first
    | (go_at_call 42; refine (HFR.out _ (HH3.out.grows ((Grows.refl _).drew)).fr).mono ?_; rintro _ w4 ⟨rfl, hF4, hC4⟩
       have HF4 := Lib.hid hF4
       have HC4 := Lib.hid hC4
       clear hF4 hC4))
  all_goals
    have HH4 := Lib.hid ((HH3.out.grows ((Grows.refl _).drew)).framed HF4.out HC4.out)
    have HR64 := Lib.hid ((HR63.out.grows ((Grows.refl _).drew)).chg HC4.out (by simp; omega))
    have HCC := Lib.hid ((HC3.out.drew).trans (HC4.out.weaken (T := [fp, bt, bw, q, tb, bl]) (fun k hk => Or.inl (by simp at hk ⊢; omega))))
    clear HH3 HR63 HC3 HF4 HC4 HSF HFR lt l6
    have cc := HH4.out.st.tab.count HKQ.out
    have lt := HH4.out.st.tab.row.lt
    have fz := HH4.out.st.tab.row.frozen (6 + kq)
    have kl : kq < 32 := HKQ.out
    go_wp2_with fail
    go_region
    all_goals
      obtain ⟨W5, hW5⟩ : ∃ W5, W5 = World.drew (w4.setCell ⟨tb, 6 + kq, none⟩ (.int .i64 (c kq - 1))) := ⟨_, rfl⟩
      rw [← hW5]
      have HH5 := Lib.hid (show GuAt W5 tb pm fp bl s q N o rt (upC c kq (c kq - 1)) L _ bt bw n first _ O quo low by rw [hW5]; exact (HH4.out.counted HKQ.out (c kq - 1)).grows ((Grows.refl _).drew))
      have HR65 := Lib.hid (show Row W5 b6 #[.bool (eb v 0), .bool (eb v 1), .bool (eb v 2), .bool (eb v 3), .bool (eb v 4), .bool (eb v 5), .bool (eb v 6), .int .i64 (ef v)] 111 by rw [hW5]; exact (row_setOther HR64.out (fun e => hb.2.2.2.2.1 e.symm) _).grows ((Grows.refl _).drew))
      have HC5 := Lib.hid (show Chg [fp, bt, bw, q, tb, bl] w W5 by rw [hW5]; exact (HCC.out.setCell (Or.inl (by simp)) _ _).drew)
      clear hW5 HH4 HR64 HCC cc lt fz
      have c5 := HH5.out.st.tab.count HKQ.out
      have hcv : upC c kq (c kq - 1) kq = c kq - 1 := by unfold upC; rw [if_pos rfl]
      rw [hcv] at c5
      have lt := HH5.out.st.tab.row.lt
      have l6 := HR65.out.lt
      have y7 : W5.cell? ⟨b6, 7, none⟩ = some (.int .i64 (ef v)) := HR65.out.cell 7
    go_wp2_with fail
    exact bodyPost_ret (v := .tuple #[.int .i64 (ef v), .int .i64 0]) (by simp [results, Tryd.results12, go_sem]) rfl ⟨rfl, HH5.out, HC5.out⟩
set_option maxHeartbeats 4000000 in
theorem Unmap_last {w : World} {tb pm fp bl s q N o rt : Nat} {c : Nat → Int} {L : Int → Option Int} {B : Nat → Nat} {bt bw n first : Nat} {T O : Nat → Nat} {quo : Nat → Int} {low : Nat} (h : GuAt w tb pm fp bl s q N o (rt : Int) c L B bt bw n first T O quo low) {page : Nat} (hp : page < 1024) {t : Nat} (hg : gok (rdP N B L page) = true) (hl : L ((page / 32 : Nat) : Int) = some (t : Int)) (hin : t * 256 + 256 ≤ N) (hfn : ef (rdP N B L page) < n) (hT1 : 1 < T (ef (rdP N B L page))) (hO : O (ef (rdP N B L page)) = o) (hff : first ≤ ef (rdP N B L page)) (hck : c (page / 32) = 1) (hrt : rt * 256 + 256 ≤ N) (htn : t < n) (htT : T t = 1) (htO : O t = 0) (htf : first ≤ t) :
    Calls Tryd.prog 12 #[.pointer (some ⟨tb, 0, none⟩), .int .i64 page] w fun e w' => e = .returned (.tuple #[.int .i64 (ef (rdP N B L page)), .int .i64 0]) ∧ GuAt w' tb pm fp bl (s - 1) q N o rt (upC c (page / 32) (c (page / 32) - 1)) (imDel L ((page / 32 : Nat) : Int)) (putB (putB B (t * 256 + 8 * (page % 32)) (leB (packN false false false false false false false 0) 8)) (rt * 256 + 8 * (page / 32)) (leB (packN false false false false false false false 0) 8)) bt bw n first (upF (upF T (ef (rdP N B L page)) (T (ef (rdP N B L page)) - 1)) t 0) O quo (min low t) ∧ Chg [fp, bt, bw, q, tb, bl] w w' := by
  have HH := Lib.hid h
  have HLT := Lib.hid h.lts
  have hma := mapped_any h.st hp
  have hen : entA (rdP N B L page) = #[.bool (eb (rdP N B L page) 0), .bool (eb (rdP N B L page) 1), .bool (eb (rdP N B L page) 2), .bool (eb (rdP N B L page) 3), .bool (eb (rdP N B L page) 4), .bool (eb (rdP N B L page) 5), .bool (eb (rdP N B L page) 6), .int .i64 (ef (rdP N B L page))] := rfl
  rw [hg, hen] at hma
  have HMA := Lib.hid hma
  have ht := (h.st.low _ _ hl).2
  have HLK := Lib.hid (fun W C c' s' root' (h : StAt W tb pm fp bl s' q N (o : Int) root' c' L C) => h.look (k := page / 32) (by omega) hl)
  have HPU := Lib.hid (fun W C c' s' root' (h : StAt W tb pm fp bl s' q N (o : Int) root' c' L C) => put_any h.tab h.mem h.wid h.pla (t := t) (pl := page % 32) (by omega) (by omega) (by omega) h.sep.1 false false false false false false false 0)
  have HFR := Lib.hid (fun W (hF : FrAt W fp bt bw n first T O quo low) => Free_more hF hfn hT1 hO hff)
  have HKQ := Lib.hid (show page / 32 < 32 by omega)
  have w1 : IntKind.i64.wrap (c (page / 32) - 1) = c (page / 32) - 1 := by rw [IntKind.wrap_i64]; omega
  have z5 : (c (page / 32) - 1 == 0) = true := by rw [hck]; rfl
  have HPR := Lib.hid (fun W C c' L' s' root' (h : StAt W tb pm fp bl s' q N (o : Int) root' c' L' C) => put_any h.tab h.mem h.wid h.pla (t := rt) (pl := page / 32) (by have := h.mem.hn; omega) (by omega) (by omega) h.sep.1 false false false false false false false 0)
  have htne : t ≠ ef (rdP N B L page) := by intro e; rw [e] at htT; omega
  have hup : upF T (ef (rdP N B L page)) (T (ef (rdP N B L page)) - 1) t = 1 := by rw [upF_ne _ _ htne]; exact htT
  have HFT := Lib.hid (fun W (hF : FrAt W fp bt bw n first (upF T (ef (rdP N B L page)) (T (ef (rdP N B L page)) - 1)) O quo low) => Free_last hF htn hup htO htf)
  have HDL := Lib.hid (fun W C c' root' (h : StAt W tb pm fp bl s q N (o : Int) root' c' L C) => h.map.del Tryd.underlying3 Tryd.underlying29 (K := ((page / 32 : Nat) : Int)) (wf_of (by omega) (by omega)) 0)
  rw [hl] at HDL
  simp only [Option.isSome_some, if_true] at HDL
  have HLW := Lib.hid h.st.low
  obtain ⟨q1, q2, q3, q4⟩ := pageQR hp
  generalize rdP N B L page = v at *
  generalize page / 32 = kq at *
  generalize page % 32 = pr at *
  clear h hg hp hl hin hfn hT1 hO hff hck hma hen ht hrt htn htT htO htf htne hup
  go_enter Tryd.func12, Tryd.ntmps12
  go_wp2_with fail
  refine HMA.out.mono ?_
  rintro _ w1 ⟨rfl, hg1⟩
  clear HMA
  go_upto_region 2 with fail
  obtain ⟨b6, hb6⟩ : ∃ b, b = w1.heap.size := ⟨_, rfl⟩
  obtain ⟨W2, hW2⟩ : ∃ W2, W2 = w1.alloc (Obj.cells #[.bool (eb v 0), .bool (eb v 1), .bool (eb v 2), .bool (eb v 3), .bool (eb v 4), .bool (eb v 5), .bool (eb v 6), .int .i64 (ef v)] 111) := ⟨_, rfl⟩
  rw [← hW2, ← hb6]
  have hg12 : Grows w1 W2 := by rw [hW2]; exact (Grows.refl _).alloc _
  have HR6 := Lib.hid (show Row W2 b6 #[.bool (eb v 0), .bool (eb v 1), .bool (eb v 2), .bool (eb v 3), .bool (eb v 4), .bool (eb v 5), .bool (eb v 6), .int .i64 (ef v)] 111 by rw [hW2]; exact Row.new_at _ _ _ hb6)
  have hb : b6 ≠ fp ∧ b6 ≠ bt ∧ b6 ≠ bw ∧ b6 ≠ q ∧ b6 ≠ tb ∧ b6 ≠ bl := by have := HLT.out; have := hg1.size; omega
  have HH2 := Lib.hid (HH.out.grows (hg1.trans hg12))
  have HC2 := Lib.hid (Chg.of_grows (S := [fp, bt, bw, q, tb, bl]) (hg1.trans hg12))
  clear hW2 hb6 hg1 hg12 HH
  obtain ⟨_, _, _, _, _, c5, lt⟩ := HH2.out.st.tab.cells
  have hlk2 := HLK.out W2 _ _ _ _ HH2.out.st
  go_wp2_with fail
  clear hlk2 c5 lt
  refine (HPU.out _ _ _ _ _ HH2.out.st).mono ?_
  rintro _ w3 ⟨⟨vv, rfl⟩, hM3, hC3⟩
  have HH3 := Lib.hid (HH2.out.wrote hM3 hC3)
  have HR63 := Lib.hid (HR6.out.chg hC3 (by simp; omega))
  have HC3 := Lib.hid (HC2.out.trans (hC3.weaken (T := [fp, bt, bw, q, tb, bl]) (fun k hk => Or.inl (by simp at hk ⊢; omega))))
  clear hM3 hC3 HH2 HR6 HC2 HPU
  have lt := HH3.out.st.tab.row.lt
  have l6 := HR63.out.lt
  go_wp2_with fail
  have HSF := Lib.hid (fun (w' : World) (h : TbAt w' tb pm fp bl (o : Int) rt true c) (h6 : Row w' b6 #[.bool (eb v 0), .bool (eb v 1), .bool (eb v 2), .bool (eb v 3), .bool (eb v 4), .bool (eb v 5), .bool (eb v 6), .int .i64 (ef v)] 111) => (⟨h.cells.2.1, h.cells.2.2.1, h6.cell 7⟩ : w'.cell? ⟨tb, 1, none⟩ = some (.pointer (some ⟨fp, 0, none⟩)) ∧ w'.cell? ⟨tb, 2, none⟩ = some (.int .i64 o) ∧ w'.cell? ⟨b6, 7, none⟩ = some (.int .i64 (ef v))))
  go_region_held3 (fun w' => w'.cell? ⟨tb, 1, none⟩ = some (.pointer (some ⟨fp, 0, none⟩)) ∧ w'.cell? ⟨tb, 2, none⟩ = some (.int .i64 o) ∧ w'.cell? ⟨b6, 7, none⟩ = some (.int .i64 (ef v))) (first
    | with_reducible exact HSF.out _ (((HH3.out.grows ((Grows.refl _).drew)).framed HF4.out HC4.out).st.tab) ((HR63.out.grows ((Grows.refl _).drew)).chg HC4.out (by simp; omega))
    | with_reducible exact HSF.out _ (HH3.out.grows ((Grows.refl _).drew)).st.tab (HR63.out.grows ((Grows.refl _).drew))) (first
    | (go_at_call 42; refine (HFR.out _ (HH3.out.grows ((Grows.refl _).drew)).fr).mono ?_; rintro _ w4 ⟨rfl, hF4, hC4⟩
       have HF4 := Lib.hid hF4
       have HC4 := Lib.hid hC4
       clear hF4 hC4))
  all_goals
    have HH4 := Lib.hid ((HH3.out.grows ((Grows.refl _).drew)).framed HF4.out HC4.out)
    have HR64 := Lib.hid ((HR63.out.grows ((Grows.refl _).drew)).chg HC4.out (by simp; omega))
    have HCC := Lib.hid ((HC3.out.drew).trans (HC4.out.weaken (T := [fp, bt, bw, q, tb, bl]) (fun k hk => Or.inl (by simp at hk ⊢; omega))))
    clear HH3 HR63 HC3 HF4 HC4 HSF HFR lt l6
    have cc := HH4.out.st.tab.count HKQ.out
    have lt := HH4.out.st.tab.row.lt
    have fz := HH4.out.st.tab.row.frozen (6 + kq)
    have kl : kq < 32 := HKQ.out
    go_wp2_with fail
    go_region
    all_goals
      obtain ⟨W5, hW5⟩ : ∃ W5, W5 = World.drew (w4.setCell ⟨tb, 6 + kq, none⟩ (.int .i64 (c kq - 1))) := ⟨_, rfl⟩
      rw [← hW5]
      have HH5 := Lib.hid (show GuAt W5 tb pm fp bl s q N o rt (upC c kq (c kq - 1)) L _ bt bw n first _ O quo low by rw [hW5]; exact (HH4.out.counted HKQ.out (c kq - 1)).grows ((Grows.refl _).drew))
      have HR65 := Lib.hid (show Row W5 b6 #[.bool (eb v 0), .bool (eb v 1), .bool (eb v 2), .bool (eb v 3), .bool (eb v 4), .bool (eb v 5), .bool (eb v 6), .int .i64 (ef v)] 111 by rw [hW5]; exact (row_setOther HR64.out (fun e => hb.2.2.2.2.1 e.symm) _).grows ((Grows.refl _).drew))
      have HC5 := Lib.hid (show Chg [fp, bt, bw, q, tb, bl] w W5 by rw [hW5]; exact (HCC.out.setCell (Or.inl (by simp)) _ _).drew)
      clear hW5 HH4 HR64 HCC cc lt fz
      have c5 := HH5.out.st.tab.count HKQ.out
      have hcv : upC c kq (c kq - 1) kq = c kq - 1 := by unfold upC; rw [if_pos rfl]
      rw [hcv] at c5
      have lt := HH5.out.st.tab.row.lt
      have l6 := HR65.out.lt
      have y7 : W5.cell? ⟨b6, 7, none⟩ = some (.int .i64 (ef v)) := HR65.out.cell 7
    obtain ⟨_, _, _, r3, _, _, lt⟩ := HH5.out.st.tab.cells
    go_wp2_with fail
    clear r3 lt c5 y7 l6 z5 w1
    refine (HPR.out W5 _ _ _ _ _ HH5.out.st).mono ?_
    rintro _ w6 ⟨⟨vv2, rfl⟩, hM6, hC6⟩
    have HH6 := Lib.hid (HH5.out.wrote hM6 hC6)
    have HR66 := Lib.hid (HR65.out.chg hC6 (by simp; omega))
    have HC6 := Lib.hid (HC5.out.trans (hC6.weaken (T := [fp, bt, bw, q, tb, bl]) (fun k hk => Or.inl (by simp at hk ⊢; omega))))
    clear hM6 hC6 HH5 HR65 HC5 HPR
    have lt := HH6.out.st.tab.row.lt
    go_wp2_with fail
    have HSG := Lib.hid (fun (w' : World) (C : Nat → Nat) c' (hs : StAt w' tb pm fp bl s q N (o : Int) rt c' L C) => (⟨hs.tab.cells.2.1, hs.tab.cells.2.2.2.2.2.1, HLK.out w' C c' s rt hs⟩ : w'.cell? ⟨tb, 1, none⟩ = some (.pointer (some ⟨fp, 0, none⟩)) ∧ w'.cell? ⟨tb, 5, none⟩ = some (.map (some bl)) ∧ (Instr.lookup 29 (.map (some bl)) (.int .i64 kq) false).run Tryd.prog w' = .ok (.int .i64 t) w'))
    go_region_held3 (fun w' => w'.cell? ⟨tb, 1, none⟩ = some (.pointer (some ⟨fp, 0, none⟩)) ∧ w'.cell? ⟨tb, 5, none⟩ = some (.map (some bl)) ∧ (Instr.lookup 29 (.map (some bl)) (.int .i64 kq) false).run Tryd.prog w' = .ok (.int .i64 t) w') (first
      | with_reducible exact HSG.out _ _ _ (((HH6.out.grows ((Grows.refl _).drew)).framed HF7.out HC7.out).st)
      | with_reducible exact HSG.out _ _ _ (HH6.out.grows ((Grows.refl _).drew)).st) (first
      | (go_at_call 42; refine (HFT.out _ (HH6.out.grows ((Grows.refl _).drew)).fr).mono ?_; rintro _ w7 ⟨rfl, hF7, hC7⟩
         have HF7 := Lib.hid hF7
         have HC7 := Lib.hid hC7
         clear hF7 hC7))
    all_goals
      have HH7 := Lib.hid ((HH6.out.grows ((Grows.refl _).drew)).framed HF7.out HC7.out)
      have HR67 := Lib.hid ((HR66.out.grows ((Grows.refl _).drew)).chg HC7.out (by simp; omega))
      have HC8 := Lib.hid ((HC6.out.drew).trans (HC7.out.weaken (T := [fp, bt, bw, q, tb, bl]) (fun k hk => Or.inl (by simp at hk ⊢; omega))))
      clear HH6 HR66 HC6 HF7 HC7 HSG HFT HLK lt
      obtain ⟨w8, hrun, hm8, hg8⟩ := HDL.out w7 _ _ _ HH7.out.st
      have HH8 := Lib.hid (HH7.out.mapped hm8 hg8 (fun k' t' hk => by
        unfold imDel at hk
        split at hk
        · cases hk
        · exact HLW.out _ _ hk))
      have hc78 : Chg [bl] w7 w8 := (Chg.refl _ _).grownBy hg8 (fun b hb => by injection hb with hb; subst hb; exact Or.inl (by simp))
      have HR68 := Lib.hid (HR67.out.chg hc78 (by simp; omega))
      have HC9 := Lib.hid (HC8.out.trans (hc78.weaken (T := [fp, bt, bw, q, tb, bl]) (fun k hk => Or.inl (by simp at hk ⊢; omega))))
      obtain ⟨_, _, _, _, _, c5, lt⟩ := HH7.out.st.tab.cells
      have l6 := HR68.out.lt
      have y7 : w8.cell? ⟨b6, 7, none⟩ = some (.int .i64 (ef v)) := HR68.out.cell 7
      clear hm8 hg8 hc78 HR67 HR68 HC8 HH7 HDL
      go_wp2_with fail
      exact bodyPost_ret (v := .tuple #[.int .i64 (ef v), .int .i64 0]) (by simp [results, Tryd.results12, go_sem]) rfl ⟨rfl, HH8.out, HC9.out⟩
end Go.Proofs.YtlchlklbjocliaaDoor
