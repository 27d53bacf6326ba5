/- Texts of one kind, laid together. -/
import Derived.Test.YtlchlklbjocliaaDoorMF
import Derived.Test.YtlchlklbjocliaaDoorMC
import Derived.Test.YtlchlklbjocliaaDoorME
import Derived.Carry
import Derived.Test.YtlchlklbjocliaaDoorMB
/- The package balloon: wrong, Take, of a balloon that stands. -/
namespace Go.Proofs.YtlchlklbjocliaaDoor
open Go Go.RowKit
set_option linter.unusedSimpArgs false
set_option linter.unusedVariables false
set_option maxRecDepth 100000
def baL (pm fp tb : Nat) (o pages : Int) (bv : Nat) (gvn tk : Int) : Array Value := #[.pointer (some ⟨pm, 0, none⟩), .pointer (some ⟨fp, 0, none⟩), .pointer (some ⟨tb, 0, none⟩), .int .i64 o, .int .i64 pages, .map (some bv), .int .i64 gvn, .int .i64 tk, .int .i64 0]
abbrev WMap := BMap Tryd.prog 3 4
/-- A balloon that stands: its row and the frames that wait. -/
structure BaAt (w : World) (ba pm fp tb : Nat) (o pages : Int) (bv sv : Nat) (gvn tk : Int) (F : Int → Option Bool) : Prop where
  row : Row w ba (baL pm fp tb o pages bv gvn tk) 100
  wm : WMap w bv sv F
  ne : ba ≠ bv
theorem BaAt.chg {S : List Nat} {w w' : World} {ba pm fp tb : Nat} {o pages : Int} {bv sv : Nat} {gvn tk : Int} {F : Int → Option Bool} (h : BaAt w ba pm fp tb o pages bv sv gvn tk F) (hc : Chg S w w') (h1 : ba ∉ S) (h2 : bv ∉ S) : BaAt w' ba pm fp tb o pages bv sv gvn tk F :=
  ⟨h.row.chg hc h1, h.wm.of_block (hc.get h.wm.lt h2), h.ne⟩
theorem baL_tk {w : World} {ba pm fp tb : Nat} {o pages : Int} {bv : Nat} {gvn tk : Int} (h : Row w ba (baL pm fp tb o pages bv gvn tk) 100) (v : Int) : Row (w.setCell ⟨ba, 7, none⟩ (.int .i64 v)) ba (baL pm fp tb o pages bv gvn v) 100 :=
  row_setCell h (i := 7) (by show 7 < 9; omega) (.int .i64 v)
theorem baL_gv {w : World} {ba pm fp tb : Nat} {o pages : Int} {bv : Nat} {gvn tk : Int} (h : Row w ba (baL pm fp tb o pages bv gvn tk) 100) (v : Int) : Row (w.setCell ⟨ba, 6, none⟩ (.int .i64 v)) ba (baL pm fp tb o pages bv v tk) 100 :=
  row_setCell h (i := 6) (by show 6 < 9; omega) (.int .i64 v)
theorem bwrong_ok {w : World} {ba pm fp tb : Nat} {o pages : Int} {bv sv : Nat} {gvn tk : Int} {F : Int → Option Bool} (h : BaAt w ba pm fp tb o pages bv sv gvn tk F) {page : Int} (h0 : 0 ≤ page) (h1 : page < pages) :
    Calls Tryd.prog 75 #[.pointer (some ⟨ba, 0, none⟩), .int .i64 page] w fun r w' => r = .returned (.int .i64 0) ∧ w' = w := by
  have hb : ∀ w, (binOp .eql 98 (.map (some bv)) (.map none)).run Tryd.prog w = .ok (.bool false) w := fun w => by kernel_rfl
  have lt := h.row.lt
  have c5 : w.cell? ⟨ba, 5, none⟩ = some (.map (some bv)) := h.row.cell 5
  have c4 : w.cell? ⟨ba, 4, none⟩ = some (.int .i64 pages) := h.row.cell 4
  have d1 : decide (page < 0) = false := decide_eq_false (by omega)
  have d2 : decide (pages ≤ page) = false := decide_eq_false (by omega)
  clear h
  go_enter Tryd.func75, Tryd.ntmps75
  go_wp2_with fail
  go_ret
  exact ⟨rfl, rfl⟩
theorem bwrong_arg {w : World} {ba pm fp tb : Nat} {o pages : Int} {bv sv : Nat} {gvn tk : Int} {F : Int → Option Bool} (h : BaAt w ba pm fp tb o pages bv sv gvn tk F) {page : Int} (h0 : page < 0 ∨ pages ≤ page) :
    Calls Tryd.prog 75 #[.pointer (some ⟨ba, 0, none⟩), .int .i64 page] w fun r w' => r = .returned (.int .i64 2) ∧ w' = w := by
  have hb : ∀ w, (binOp .eql 98 (.map (some bv)) (.map none)).run Tryd.prog w = .ok (.bool false) w := fun w => by kernel_rfl
  have lt := h.row.lt
  have c5 : w.cell? ⟨ba, 5, none⟩ = some (.map (some bv)) := h.row.cell 5
  have c4 : w.cell? ⟨ba, 4, none⟩ = some (.int .i64 pages) := h.row.cell 4
  clear h
  by_cases hp : page < 0
  · have d1 : decide (page < 0) = true := decide_eq_true hp
    clear h0 hp
    go_enter Tryd.func75, Tryd.ntmps75
    go_wp2_with fail
    go_ret
    exact ⟨rfl, rfl⟩
  · have d1 : decide (page < 0) = false := decide_eq_false hp
    have d2 : decide (pages ≤ page) = true := decide_eq_true (by omega)
    clear h0 hp
    go_enter Tryd.func75, Tryd.ntmps75
    go_wp2_with fail
    go_ret
    exact ⟨rfl, rfl⟩
theorem Take_none {w : World} {ba pm fp tb : Nat} {o pages : Int} {bv sv : Nat} {gvn tk : Int} {F : Int → Option Bool} (h : BaAt w ba pm fp tb o pages bv sv gvn tk F) {page : Nat} (h1 : (page : Int) < pages)
    (hun : Calls Tryd.prog 12 #[.pointer (some ⟨tb, 0, none⟩), .int .i64 page] w fun e w' => e = .returned (.tuple #[.int .i64 0, .int .i64 14]) ∧ Grows w w') :
    Calls Tryd.prog 34 #[.pointer (some ⟨ba, 0, none⟩), .int .i64 page] w fun r w' => r = .returned (.tuple #[.int .i64 0, .int .i64 14]) ∧ Grows w w' := by
  have hwr := bwrong_ok h (page := page) (by omega) h1
  have lt := h.row.lt
  have c2 : w.cell? ⟨ba, 2, none⟩ = some (.pointer (some ⟨tb, 0, none⟩)) := h.row.cell 2
  clear h h1
  go_enter Tryd.func34, Tryd.ntmps34
  go_wp2_with fail
  refine (hwr).mono ?_
  rintro _ _ ⟨rfl, hw⟩
  rw [hw]
  clear hw
  go_wp2_with fail
  refine hun.mono ?_
  rintro _ w1 ⟨rfl, hg1⟩
  clear hun c2 lt hwr
  go_wp2_with fail
  exact bodyPost_ret (v := .tuple #[.int .i64 0, .int .i64 14]) (by simp [results, Tryd.results34, go_sem]) rfl ⟨rfl, hg1⟩
/-- Take: what Unmap did, and then only the balloon's own blocks. -/
theorem Take_of {w : World} {ba pm fp tb : Nat} {o pages : Int} {bv sv : Nat} {gvn tk : Int} {F : Int → Option Bool} {S : List Nat} {R : World → Prop} (h : BaAt w ba pm fp tb o pages bv sv gvn tk F) {page f : Nat} (h1 : (page : Int) < pages) (hf : f < 65536) (hsv : sv < 1000000) (htk : 0 ≤ tk ∧ tk < 1000000) (hS1 : ba ∉ S) (hS2 : bv ∉ S)
    (hun : Calls Tryd.prog 12 #[.pointer (some ⟨tb, 0, none⟩), .int .i64 page] w fun e w' => e = .returned (.tuple #[.int .i64 f, .int .i64 0]) ∧ R w' ∧ Chg S w w') :
    Calls Tryd.prog 34 #[.pointer (some ⟨ba, 0, none⟩), .int .i64 page] w fun r w' => r = .returned (.tuple #[.int .i64 f, .int .i64 0]) ∧ ∃ w1, R w1 ∧ Chg S w w1 ∧ Chg [ba, bv] w1 w' ∧ BaAt w' ba pm fp tb o pages bv (if (F f).isSome then sv else sv + 1) gvn (tk + 1) (bmUpd F f true) := by
  obtain ⟨sv', hsv'⟩ : ∃ s', s' = (if (F f).isSome then sv else sv + 1) := ⟨_, rfl⟩
  rw [← hsv']
  have HSV := Lib.hid hsv'
  clear hsv'
  have hwr := bwrong_ok h (page := page) (by omega) h1
  have lt := h.row.lt
  have c2 : w.cell? ⟨ba, 2, none⟩ = some (.pointer (some ⟨tb, 0, none⟩)) := h.row.cell 2
  have HH := Lib.hid h
  have wt : IntKind.i64.wrap (tk + 1) = tk + 1 := by rw [IntKind.wrap_i64]; omega
  have HF := Lib.hid (⟨hf, hsv, hS1, hS2⟩ : f < 65536 ∧ sv < 1000000 ∧ ba ∉ S ∧ bv ∉ S)
  clear h h1 hf hsv htk hS1 hS2
  go_enter Tryd.func34, Tryd.ntmps34
  go_wp2_with fail
  refine (hwr).mono ?_
  rintro _ _ ⟨rfl, hw⟩
  rw [hw]
  clear hw
  go_wp2_with fail
  refine hun.mono ?_
  rintro _ w1 ⟨rfl, hR1, hC1⟩
  have HH1 := Lib.hid (HH.out.chg hC1 HF.out.2.2.1 HF.out.2.2.2)
  have HR1 := Lib.hid hR1
  have HC1 := Lib.hid hC1
  obtain ⟨w2, hrun, hm2, hg2⟩ := HH1.out.wm.update Tryd.underlying3 Tryd.underlying4 Tryd.underlying98 (by have := HF.out; unfold maxLen; omega) (K := (f : Int)) true (wf_of (by omega) (by have := HF.out; omega))
  rw [← HSV.out] at hm2
  have hc2 : Chg [bv] w1 w2 := (Chg.refl _ _).grownBy hg2 (fun b hb => by injection hb with hb; subst hb; exact Or.inl (by simp))
  have HR2 := Lib.hid (HH1.out.row.chg hc2 (by simp; exact HH1.out.ne))
  have HM2 := Lib.hid hm2
  have HC2 := Lib.hid hc2
  have lt1 := HH1.out.row.lt
  have c5 : w1.cell? ⟨ba, 5, none⟩ = some (.map (some bv)) := HH1.out.row.cell 5
  have lt2 := HR2.out.lt
  have d7 : w2.cell? ⟨ba, 7, none⟩ = some (.int .i64 tk) := HR2.out.cell 7
  have f7 := HR2.out.frozen 7
  clear hun c2 lt hwr HH hR1 hC1 hm2 hg2 hc2
  go_wp2_with fail
  exact bodyPost_ret (v := .tuple #[.int .i64 f, .int .i64 0]) (by simp [results, Tryd.results34, go_sem]) rfl ⟨rfl, w1, HR1.out, HC1.out, (HC2.out.weaken (by simp)).setCell (Or.inl (by simp)) _ _, ⟨baL_tk HR2.out (tk + 1), HM2.out.of_block (((Chg.refl [ba] w2).setCell (b := ba) (Or.inl (by simp)) 7 (.int .i64 (tk + 1))).get HM2.out.lt (by simp; exact fun e => HH1.out.ne e.symm)), HH1.out.ne⟩⟩
end Go.Proofs.YtlchlklbjocliaaDoor

/- The package balloon: Settle. -/
namespace Go.Proofs.YtlchlklbjocliaaDoor
open Go Go.RowKit
set_option linter.unusedSimpArgs false
set_option linter.unusedVariables false
set_option maxRecDepth 100000
theorem zero_bool' (w : World) : (zeroValue 4).run Tryd.prog w = .ok (.bool false) w := by
  have h : ∀ w, (zeroValue 4).run Tryd.prog w = .ok (.bool false) w := fun w => by kernel_rfl
  exact h w
theorem BaAt.look {w : World} {ba pm fp tb : Nat} {o pages : Int} {bv sv : Nat} {gvn tk : Int} {F : Int → Option Bool} (h : BaAt w ba pm fp tb o pages bv sv gvn tk F) {x : Int} (wx : wf64 x) :
    (Instr.lookup 98 (.map (some bv)) (.int .i64 x) false).run Tryd.prog w = .ok (.bool ((F x).getD false)) w :=
  h.wm.look Tryd.underlying3 Tryd.underlying4 Tryd.underlying98 (zero_bool' w) wx
theorem Settle_none {w : World} {ba pm fp tb : Nat} {o pages : Int} {bv sv : Nat} {gvn tk : Int} {F : Int → Option Bool} (h : BaAt w ba pm fp tb o pages bv sv gvn tk F) {x : Int} (wx : wf64 x) (hF : (F x).getD false = false) :
    Calls Tryd.prog 35 #[.pointer (some ⟨ba, 0, none⟩), .int .i64 x] w fun r w' => r = .returned (.int .i64 14) ∧ Grows w w' := by
  have hb : ∀ w, (binOp .eql 98 (.map (some bv)) (.map none)).run Tryd.prog w = .ok (.bool false) w := fun w => by kernel_rfl
  have lt := h.row.lt
  have c5 : w.cell? ⟨ba, 5, none⟩ = some (.map (some bv)) := h.row.cell 5
  have hl := h.look wx
  rw [hF] at hl
  clear h hF
  go_enter Tryd.func35, Tryd.ntmps35
  go_wp2_with fail
  go_ret
  exact ⟨rfl, Grows.refl _⟩
set_option maxHeartbeats 4000000 in
theorem Settle_ok {w : World} {ba pm fp tb o q N bt bw n first low : Nat} {pages : Int} {bv sv : Nat} {gvn tk : Int} {F : Int → Option Bool} {B T O : Nat → Nat} {quo : Nat → Int} (h : BaAt w ba pm fp tb (o : Int) pages bv sv gvn tk F) (hM : Mem w pm q N B) (hF : FrAt w fp bt bw n first T O quo low) (hnN : n ≤ N / 256) {f : Nat} (hfn : f < n) (hT : T f = 1) (hO : O f = o) (hff : first ≤ f) (hw : F (f : Int) = some true)
    (hd1 : ba ≠ fp ∧ ba ≠ bt ∧ ba ≠ bw ∧ ba ≠ q ∧ ba ≠ pm) (hd2 : bv ≠ fp ∧ bv ≠ bt ∧ bv ≠ bw ∧ bv ≠ q ∧ bv ≠ pm) (hd3 : pm ≠ fp ∧ pm ≠ bt ∧ pm ≠ bw ∧ q ≠ fp ∧ q ≠ bt ∧ q ≠ bw) :
    Calls Tryd.prog 35 #[.pointer (some ⟨ba, 0, none⟩), .int .i64 f] w fun r w' => r = .returned (.int .i64 0) ∧ FrAt w' fp bt bw n first (upF T f 0) O quo (min low f) ∧ Mem w' pm q N (putB B (f * 256) (List.replicate 256 0)) ∧ BaAt w' ba pm fp tb (o : Int) pages bv (sv - 1) gvn tk (bmDel F f) ∧ Chg [fp, bt, bw, q, bv] w w' := by
  have hb : ∀ w, (binOp .eql 98 (.map (some bv)) (.map none)).run Tryd.prog w = .ok (.bool false) w := fun w => by kernel_rfl
  have hn2 := hF.n2
  have hl := h.look (x := (f : Int)) (wf_of (by omega) (by omega))
  rw [hw] at hl
  simp only [Option.getD_some] at hl
  have how := Owner_some hF hfn (by omega)
  rw [hO, hT] at how
  have HCL := Lib.hid (fun W (h : Mem W pm q N B) => Clear_ok h f (by omega))
  have HFR := Lib.hid (fun W (h : FrAt W fp bt bw n first T O quo low) => Free_last h hfn hT hO hff)
  have HDL := Lib.hid (fun W (h : BaAt W ba pm fp tb (o : Int) pages bv sv gvn tk F) => h.wm.del Tryd.underlying3 Tryd.underlying98 (K := (f : Int)) (wf_of (by omega) (by omega)) 0)
  rw [hw] at HDL
  simp only [Option.isSome_some, if_true] at HDL
  have HH := Lib.hid h
  have HM := Lib.hid hM
  have HF := Lib.hid hF
  have lt := h.row.lt
  have c5 : w.cell? ⟨ba, 5, none⟩ = some (.map (some bv)) := h.row.cell 5
  have c1 : w.cell? ⟨ba, 1, none⟩ = some (.pointer (some ⟨fp, 0, none⟩)) := h.row.cell 1
  clear h hM hF hfn hT hO hff hw hn2 hnN
  go_enter Tryd.func35, Tryd.ntmps35
  go_wp2_with fail
  refine how.mono ?_
  rintro _ w1 ⟨rfl, hg1⟩
  have HH1 := Lib.hid (HH.out.chg (Chg.of_grows (S := []) hg1) (by simp) (by simp))
  have HM1 := Lib.hid (MemAt.grows HM.out hg1)
  have HF1 := Lib.hid (HF.out.grows hg1)
  have HC1 := Lib.hid (Chg.of_grows (S := [fp, bt, bw, q, bv]) hg1)
  clear how c5 c1 lt hl hg1 HH HM HF
  have lt := HH1.out.row.lt
  have c0 : w1.cell? ⟨ba, 0, none⟩ = some (.pointer (some ⟨pm, 0, none⟩)) := HH1.out.row.cell 0
  go_wp2_with fail
  refine (HCL.out w1 HM1.out).mono ?_
  rintro _ w2 ⟨rfl, hM2, hC2⟩
  have HH2 := Lib.hid (HH1.out.chg hC2 (by simp; omega) (by simp; omega))
  have HM2 := Lib.hid hM2
  have HF2 := Lib.hid (HF1.out.chg hC2 (by simp; omega))
  have HC2 := Lib.hid (HC1.out.trans (hC2.weaken (T := [fp, bt, bw, q, bv]) (fun k hk => Or.inl (by simp at hk ⊢; omega))))
  clear hM2 hC2 HH1 HM1 HF1 HC1 HCL c0 lt
  have lt := HH2.out.row.lt
  go_wp2_with fail
  have HSG := Lib.hid (fun (w' : World) (h : Row w' ba (baL pm fp tb (o : Int) pages bv gvn tk) 100) => (⟨h.cell 1, h.cell 3⟩ : w'.cell? ⟨ba, 1, none⟩ = some (.pointer (some ⟨fp, 0, none⟩)) ∧ w'.cell? ⟨ba, 3, none⟩ = some (.int .i64 o)))
  go_region_held3 (fun w' => w'.cell? ⟨ba, 1, none⟩ = some (.pointer (some ⟨fp, 0, none⟩)) ∧ w'.cell? ⟨ba, 3, none⟩ = some (.int .i64 o)) (first
    | with_reducible exact HSG.out _ ((HH2.out.row.grows ((Grows.refl _).drew)).chg HC3.out (by simp; omega))
    | with_reducible exact HSG.out _ (HH2.out.row.grows ((Grows.refl _).drew))) (first
    | (go_at_call 42; refine (HFR.out _ (HF2.out.grows ((Grows.refl _).drew))).mono ?_; rintro _ w3 ⟨rfl, hF3, hC3⟩
       have HF3 := Lib.hid hF3
       have HC3 := Lib.hid hC3
       clear hF3 hC3))
  all_goals
    have HH3 := Lib.hid ((HH2.out.chg (Chg.of_grows (S := []) ((Grows.refl w2).drew)) (by simp) (by simp)).chg HC3.out (by simp; omega) (by simp; omega))
    have HM3 := Lib.hid (MemAt.chg (MemAt.grows HM2.out ((Grows.refl w2).drew)) HC3.out (by simp; omega) (by simp; omega))
    have HC4 := Lib.hid ((HC2.out.drew).trans (HC3.out.weaken (T := [fp, bt, bw, q, bv]) (fun k hk => Or.inl (by simp at hk ⊢; omega))))
    clear HH2 HM2 HF2 HC2 HC3 HSG HFR lt
    obtain ⟨w4, hrun, hm4, hg4⟩ := HDL.out w3 HH3.out
    have hc4 : Chg [bv] w3 w4 := (Chg.refl _ _).grownBy hg4 (fun b hb => by injection hb with hb; subst hb; exact Or.inl (by simp))
    have HH4 := Lib.hid (⟨HH3.out.row.chg hc4 (by simp; exact HH3.out.ne), hm4, HH3.out.ne⟩ : BaAt w4 ba pm fp tb (o : Int) pages bv (sv - 1) gvn tk (bmDel F f))
    have HM4 := Lib.hid (MemAt.chg HM3.out hc4 (by simp; omega) (by simp; omega))
    have HF4 := Lib.hid (HF3.out.chg hc4 (by simp; omega))
    have HC5 := Lib.hid (HC4.out.trans (hc4.weaken (T := [fp, bt, bw, q, bv]) (fun k hk => Or.inl (by simp at hk ⊢; omega))))
    have lt := HH3.out.row.lt
    have c5 : w3.cell? ⟨ba, 5, none⟩ = some (.map (some bv)) := HH3.out.row.cell 5
    clear hm4 hg4 hc4 HH3 HM3 HF3 HC4 HDL
    go_wp2_with fail
    go_ret
    exact ⟨rfl, HF4.out, HM4.out, HH4.out, HC5.out⟩
end Go.Proofs.YtlchlklbjocliaaDoor

/- The package balloon: Give, where the lower table is there. -/
namespace Go.Proofs.YtlchlklbjocliaaDoor
open Go Go.RowKit
set_option linter.unusedSimpArgs false
set_option linter.unusedVariables false
set_option maxRecDepth 100000
theorem gv_other {N : Nat} {B : Nat → Nat} {a b : Nat} {bs : List Nat} (h : b + 8 ≤ a ∨ a + bs.length ≤ b) : gv N (putB B a bs) b = gv N B b := by
  unfold gv
  rw [segB_congr (fun i hi => putB_out B a _ (by omega))]
/-- Blocks that are none of theirs were changed. -/
theorem GuAt.apart {S : List Nat} {w w' : World} {tb pm fp bl s q N o : Nat} {root : Int} {c : Nat → Int} {L : Int → Option Int} {B : Nat → Nat} {bt bw n first : Nat} {T O : Nat → Nat} {quo : Nat → Int} {low : Nat} (h : GuAt w tb pm fp bl s q N o root c L B bt bw n first T O quo low) (hc : Chg S w w') (h1 : tb ∉ S) (h2 : bl ∉ S) (h3 : pm ∉ S) (h4 : q ∉ S) (h5 : fp ∉ S ∧ bt ∉ S ∧ bw ∉ S) (h6 : 1 ∉ S) (h7 : 0 ∉ S) : GuAt w' tb pm fp bl s q N o root c L B bt bw n first T O quo low :=
  ⟨⟨h.st.tab.chg hc h1, h.st.map.of_block (hc.get h.st.map.lt h2), MemAt.chg h.st.mem hc h3 h4, h.st.wid.chgS hc h6, h.st.pla.chgS hc h7, h.st.low, h.st.sep⟩, h.fr.chg hc h5, h.hnN, h.apq, h.apt, h.apl, h.apg⟩
/-- What Alloc answers. -/
def AlR (w' : World) (fp bt bw n first low o : Nat) (T O : Nat → Nat) (quo : Nat → Int) (tv e : Int) : Prop :=
  (∃ k : Nat, k < n ∧ (∀ i, i < k → 0 < T i) ∧ T k = 0 ∧ first ≤ k ∧ tv = k ∧ e = 0 ∧ FrAt w' fp bt bw n first (upF T k 1) (upF O k o) quo k) ∨
  ((∀ i, i < n → 0 < T i) ∧ tv = 0 ∧ e = 20 ∧ FrAt w' fp bt bw n first T O quo n)
theorem alloc_all {w : World} {fp bt bw n first low o : Nat} {T O : Nat → Nat} {quo : Nat → Int} (h : FrAt w fp bt bw n first T O quo low) (ho17 : o < 17) (hq : (ownC n T O o : Int) < quo o) :
    Calls Tryd.prog 29 #[.pointer (some ⟨fp, 0, none⟩), .int .i64 o] w fun r w' => ∃ tv e : Int, r = .returned (.tuple #[.int .i64 tv, .int .i64 e]) ∧ AlR w' fp bt bw n first low o T O quo tv e ∧ Chg [fp, bt, bw] w w' := by
  refine (Alloc_any h ho17 hq).mono ?_
  rintro r w' ⟨⟨k, h1, h2, h3, h4, hr, h5⟩ | ⟨h1, hr, h5⟩, hc⟩
  · exact ⟨k, 0, hr, Or.inl ⟨k, h1, h2, h3, h4, rfl, rfl, h5⟩, hc⟩
  · exact ⟨0, 20, hr, Or.inr ⟨h1, rfl, rfl, h5⟩, hc⟩
set_option maxHeartbeats 4000000 in
theorem Give_low {w : World} {ba tb pm fp bl s q N o rt : Nat} {c : Nat → Int} {L : Int → Option Int} {B : Nat → Nat} {bt bw n first : Nat} {T O : Nat → Nat} {quo : Nat → Int} {low : Nat} {pages : Int} {bv sv : Nat} {gvn tk : Int} {F : Int → Option Bool} (hba : BaAt w ba pm fp tb (o : Int) pages bv sv gvn tk F) (h : GuAt w tb pm fp bl s q N o (rt : Int) c L B bt bw n first T O quo low)
    (hd1 : ba ≠ fp ∧ ba ≠ bt ∧ ba ≠ bw ∧ ba ≠ q ∧ ba ≠ tb) (hd2 : bv ≠ fp ∧ bv ≠ bt ∧ bv ≠ bw ∧ bv ≠ q ∧ bv ≠ tb) (hd3 : ba ≠ pm ∧ ba ≠ bl ∧ ba ≠ 1 ∧ ba ≠ 0)
    {page t : Nat} (hp : page < 1024) (hpp : (page : Int) < pages) (hg : gok (rdP N B L page) = false) (ho17 : o < 17) (hq : (ownC n T O o : Int) < quo o) (hl : L ((page / 32 : Nat) : Int) = some (t : Int)) (hin : t * 256 + 256 ≤ N) (hTt : 0 < T t) (hck : 0 ≤ c (page / 32) ∧ c (page / 32) ≤ 1024) (hgv : 0 ≤ gvn ∧ gvn < 1000000) :
    Calls Tryd.prog 36 #[.pointer (some ⟨ba, 0, none⟩), .int .i64 page] w fun e w' =>
      (∃ k : Nat, k < n ∧ (∀ i, i < k → 0 < T i) ∧ T k = 0 ∧ first ≤ k ∧ e = .returned (.int .i64 0) ∧ BaAt w' ba pm fp tb (o : Int) pages bv sv (gvn + 1) tk F ∧ GuAt w' tb pm fp bl s q N o (rt : Int) (upC c (page / 32) (c (page / 32) + 1)) L (putB (putB B (k * 256) (List.replicate 256 0)) (t * 256 + 8 * (page % 32)) (leB (packN true true true true true false false k) 8)) bt bw n first (upF (upF T k 1) k (upF T k 1 k + 1)) (upF O k o) quo k ∧ Chg [fp, bt, bw, q, tb, ba] w w') ∨
      ((∀ i, i < n → 0 < T i) ∧ e = .returned (.int .i64 20) ∧ BaAt w' ba pm fp tb (o : Int) pages bv sv gvn tk F ∧ GuAt w' tb pm fp bl s q N o (rt : Int) c L B bt bw n first T O quo n ∧ Chg [fp, bt, bw, q, tb, ba] w w') := by
  have hwr := bwrong_ok hba (page := page) (by omega) hpp
  have hlo := Look_any h.st hp
  rw [hg] at hlo
  have wg : IntKind.i64.wrap (gvn + 1) = gvn + 1 := by rw [IntKind.wrap_i64]; omega
  have HAL := Lib.hid (fun W (hF : FrAt W fp bt bw n first T O quo low) => alloc_all hF ho17 hq)
  have HCL := Lib.hid (fun W C (k : Nat) (hk : k < n) (hM : Mem W pm q N C) => Clear_ok hM k (by have := h.hnN; omega))
  have HMP := Lib.hid (fun W (k : Nat) (hk : k < n) (hTk : T k = 0) (hfk : first ≤ k) (hG : GuAt W tb pm fp bl s q N o (rt : Int) c L (putB B (k * 256) (List.replicate 256 0)) bt bw n first (upF T k 1) (upF O k o) quo k) => Map_low hG hp true true true rfl hk (by
      have hne : t ≠ k := fun e => by rw [e] at hTt; omega
      unfold rdP at hg ⊢
      rw [hl] at hg ⊢
      simp only [Int.toNat_natCast] at hg ⊢
      rw [gv_other (by rw [List.length_replicate]; omega)]
      exact hg) (by rw [upF_same]; omega) (by rw [upF_same]; omega) (by rw [upF_same]) hl hin hck)
  generalize rdP N B L page = v at *
  have HB := Lib.hid hba
  have HH := Lib.hid h
  have lt := hba.row.lt
  have c2 : w.cell? ⟨ba, 2, none⟩ = some (.pointer (some ⟨tb, 0, none⟩)) := hba.row.cell 2
  clear hba h hpp hg ho17 hq hl hin hTt hck hgv
  go_enter Tryd.func36, Tryd.ntmps36
  go_wp2_with fail
  refine (hwr).mono ?_
  rintro _ _ ⟨rfl, hw⟩
  rw [hw]
  clear hw
  go_wp2_with fail
  refine hlo.mono ?_
  rintro _ w1 ⟨rfl, hg1⟩
  clear hlo hwr c2 lt
  go_upto_region 5 with fail
  obtain ⟨W2, hW2⟩ : ∃ W2, W2 = w1.alloc (Obj.cells #[.bool (eb v 1), .bool (eb v 2), .bool (eb v 3)] 23) := ⟨_, rfl⟩
  rw [← hW2]
  have hg2 : Grows w W2 := by rw [hW2]; exact hg1.alloc _
  have HB2 := Lib.hid (HB.out.chg (Chg.of_grows (S := []) hg2) (by simp) (by simp))
  have HH2 := Lib.hid (HH.out.grows hg2)
  have HC2 := Lib.hid (Chg.of_grows (S := [fp, bt, bw, q, tb, ba]) hg2)
  clear hW2 hg1 hg2 HB HH
  have lt := HB2.out.row.lt
  go_wp2_with fail
  have HSG := Lib.hid (fun (w' : World) (h : Row w' ba (baL pm fp tb (o : Int) pages bv gvn tk) 100) => (⟨h.cell 1, h.cell 3⟩ : w'.cell? ⟨ba, 1, none⟩ = some (.pointer (some ⟨fp, 0, none⟩)) ∧ w'.cell? ⟨ba, 3, none⟩ = some (.int .i64 o)))
  go_region_held3 (fun w' => w'.cell? ⟨ba, 1, none⟩ = some (.pointer (some ⟨fp, 0, none⟩)) ∧ w'.cell? ⟨ba, 3, none⟩ = some (.int .i64 o)) (first
    | with_reducible exact HSG.out _ ((HB2.out.row.grows ((Grows.refl _).drew)).chg HC3.out (by simp; omega))
    | with_reducible exact HSG.out _ (HB2.out.row.grows ((Grows.refl _).drew))) (first
    | (go_at_call 29; refine (HAL.out _ (HH2.out.grows ((Grows.refl _).drew)).fr).mono ?_; rintro _ w3 ⟨tv, ee, rfl, hA3, hC3⟩
       have HA3 := Lib.hid hA3
       have HC3 := Lib.hid hC3
       clear hA3 hC3))
  all_goals
    have HB3 := Lib.hid ((HB2.out.chg (Chg.of_grows (S := []) ((Grows.refl W2).drew)) (by simp) (by simp)).chg HC3.out (by simp; omega) (by simp; omega))
    have HC4 := Lib.hid ((HC2.out.drew).trans (HC3.out.weaken (T := [fp, bt, bw, q, tb, ba]) (fun k hk => Or.inl (by simp at hk ⊢; omega))))
    rcases HA3.out with ⟨k, hk, hlow, hTk, hfk, rfl, rfl, hF3⟩ | ⟨hall, rfl, rfl, hF3⟩
    · have HH3 := Lib.hid ((HH2.out.grows ((Grows.refl _).drew)).framed hF3 HC3.out)
      have HA := Lib.hid (show k < n ∧ (∀ i, i < k → 0 < T i) ∧ T k = 0 ∧ first ≤ k from ⟨hk, hlow, hTk, hfk⟩)
      clear HB2 HH2 HC2 HC3 HA3 HSG HAL hk hlow hTk hfk hF3 lt
      have lt := HB3.out.row.lt
      have c0 : w3.cell? ⟨ba, 0, none⟩ = some (.pointer (some ⟨pm, 0, none⟩)) := HB3.out.row.cell 0
      go_wp2_with fail
      refine (HCL.out w3 _ k HA.out.1 HH3.out.st.mem).mono ?_
      rintro _ w4 ⟨rfl, hM4, hC4⟩
      have HH4 := Lib.hid (HH3.out.wrote hM4 hC4)
      have HB4 := Lib.hid (HB3.out.chg hC4 (by simp; omega) (by simp; omega))
      have HC5 := Lib.hid (HC4.out.trans (hC4.weaken (T := [fp, bt, bw, q, tb, ba]) (fun k hk => Or.inl (by simp at hk ⊢; omega))))
      clear hM4 hC4 HH3 HB3 HC4 HCL c0 lt
      have lt := HB4.out.row.lt
      have c2 : w4.cell? ⟨ba, 2, none⟩ = some (.pointer (some ⟨tb, 0, none⟩)) := HB4.out.row.cell 2
      go_wp2_with fail
      refine (HMP.out w4 k HA.out.1 HA.out.2.2.1 HA.out.2.2.2 HH4.out).mono ?_
      rintro _ w5 ⟨rfl, hG5, hC5⟩
      have HH5 := Lib.hid hG5
      have HB5 := Lib.hid (HB4.out.chg hC5 (by simp; omega) (by simp; omega))
      have HC6 := Lib.hid (HC5.out.trans (hC5.weaken (T := [fp, bt, bw, q, tb, ba]) (fun k hk => Or.inl (by simp at hk ⊢; omega))))
      clear hG5 hC5 HH4 HB4 HC5 HMP c2 lt
      have lt := HB5.out.row.lt
      have d6 : w5.cell? ⟨ba, 6, none⟩ = some (.int .i64 gvn) := HB5.out.row.cell 6
      have f6 := HB5.out.row.frozen 6
      go_wp2_with fail
      go_ret
      have hc7 : Chg [ba] w5 (w5.setCell ⟨ba, 6, none⟩ (.int .i64 (gvn + 1))) := (Chg.refl _ _).setCell (Or.inl (by simp)) _ _
      exact Or.inl ⟨k, HA.out.1, HA.out.2.1, HA.out.2.2.1, HA.out.2.2.2, rfl, ⟨baL_gv HB5.out.row (gvn + 1), HB5.out.wm.of_block (hc7.get HB5.out.wm.lt (by simp; exact fun e => HB5.out.ne e.symm)), HB5.out.ne⟩, HH5.out.apart hc7 (by simp; omega) (by simp; omega) (by simp; omega) (by simp; omega) (by simp; omega) (by simp; omega) (by simp; omega), HC6.out.trans (hc7.weaken (T := [fp, bt, bw, q, tb, ba]) (fun k hk => Or.inl (by simp at hk ⊢; omega)))⟩
    · have HH3 := Lib.hid ((HH2.out.grows ((Grows.refl _).drew)).framed hF3 HC3.out)
      have HA := Lib.hid hall
      clear HB2 HH2 HC2 HC3 HA3 HSG HAL HMP HCL hall hF3
      go_wp2_with fail
      go_ret
      exact Or.inr ⟨HA.out, rfl, HB3.out, HH3.out, HC4.out⟩
end Go.Proofs.YtlchlklbjocliaaDoor

/- The package balloon: Give, where the lower table is to be made; Give where a page is. -/
namespace Go.Proofs.YtlchlklbjocliaaDoor
open Go Go.RowKit
set_option linter.unusedSimpArgs false
set_option linter.unusedVariables false
set_option maxRecDepth 100000
set_option maxHeartbeats 1000000 in
theorem Give_there {w : World} {ba tb pm fp bl s q N o : Nat} {root : Int} {c : Nat → Int} {L : Int → Option Int} {B : Nat → Nat} {pages : Int} {bv sv : Nat} {gvn tk : Int} {F : Int → Option Bool} (hba : BaAt w ba pm fp tb (o : Int) pages bv sv gvn tk F) (h : StAt w tb pm fp bl s q N (o : Int) root c L B) {page : Nat} (hp : page < 1024) (hpp : (page : Int) < pages) (hg : gok (rdP N B L page) = true) :
    Calls Tryd.prog 36 #[.pointer (some ⟨ba, 0, none⟩), .int .i64 page] w fun e w' => e = .returned (.int .i64 13) ∧ Grows w w' := by
  have hwr := bwrong_ok hba (page := page) (by omega) hpp
  have hlo := Look_any h hp
  rw [hg] at hlo
  generalize rdP N B L page = v at *
  have lt := hba.row.lt
  have c2 : w.cell? ⟨ba, 2, none⟩ = some (.pointer (some ⟨tb, 0, none⟩)) := hba.row.cell 2
  clear hba h hpp hg hp
  go_enter Tryd.func36, Tryd.ntmps36
  go_wp2_with fail
  refine (hwr).mono ?_
  rintro _ _ ⟨rfl, hw⟩
  rw [hw]
  clear hw
  go_wp2_with fail
  refine hlo.mono ?_
  rintro _ w1 ⟨rfl, hg1⟩
  clear hlo hwr c2 lt
  go_wp2_with fail
  go_ret
  exact ⟨rfl, hg1.alloc _⟩
set_option maxHeartbeats 4000000 in
theorem Give_new {w : World} {ba tb pm fp bl s q N o rt : Nat} {c : Nat → Int} {L : Int → Option Int} {B : Nat → Nat} {bt bw n first : Nat} {T O : Nat → Nat} {quo : Nat → Int} {low : Nat} {pages : Int} {bv sv : Nat} {gvn tk : Int} {F : Int → Option Bool} (hba : BaAt w ba pm fp tb (o : Int) pages bv sv gvn tk F) (h : GuAt w tb pm fp bl s q N o (rt : Int) c L B bt bw n first T O quo low)
    (hd1 : ba ≠ fp ∧ ba ≠ bt ∧ ba ≠ bw ∧ ba ≠ q ∧ ba ≠ tb) (hd2 : bv ≠ fp ∧ bv ≠ bt ∧ bv ≠ bw ∧ bv ≠ q ∧ bv ≠ tb ∧ bv ≠ bl) (hd3 : ba ≠ pm ∧ ba ≠ bl ∧ ba ≠ 1 ∧ ba ≠ 0)
    {page : Nat} (hp : page < 1024) (hpp : (page : Int) < pages) (hg : gok (rdP N B L page) = false) (ho17 : o < 17) (hq : (ownC n T O o : Int) < quo o) (hl : L ((page / 32 : Nat) : Int) = none) (hrt : rt * 256 + 256 ≤ N) (hq0 : ∀ k, k < n → T k = 0 → (ownC n (upF (upF T k 1) k (upF T k 1 k + 1)) (upF O k o) 0 : Int) < quo 0) (hs : s < 1000000) (hck : 0 ≤ c (page / 32) ∧ c (page / 32) ≤ 1024) (hgv : 0 ≤ gvn ∧ gvn < 1000000) :
    Calls Tryd.prog 36 #[.pointer (some ⟨ba, 0, none⟩), .int .i64 page] w fun e w' =>
      (∃ k t : Nat, k < n ∧ (∀ i, i < k → 0 < T i) ∧ T k = 0 ∧ first ≤ k ∧ t < n ∧ (∀ i, i < t → 0 < upF (upF T k 1) k (upF T k 1 k + 1) i) ∧ upF (upF T k 1) k (upF T k 1 k + 1) t = 0 ∧ first ≤ t ∧ e = .returned (.int .i64 0) ∧ BaAt w' ba pm fp tb (o : Int) pages bv sv (gvn + 1) tk F ∧ GuAt w' tb pm fp bl (s + 1) q N o (rt : Int) (upC c (page / 32) (c (page / 32) + 1)) (imUpd L ((page / 32 : Nat) : Int) t) (putB (putB (putB (putB B (k * 256) (List.replicate 256 0)) (t * 256) (List.replicate 256 0)) (rt * 256 + 8 * (page / 32)) (leB (packN true false false false false false false t) 8)) (t * 256 + 8 * (page % 32)) (leB (packN true true true true true false false k) 8)) bt bw n first (upF (upF (upF T k 1) k (upF T k 1 k + 1)) t 1) (upF (upF O k o) t 0) quo t ∧ Chg [fp, bt, bw, q, tb, ba, bl] w w') ∨
      (∃ k : Nat, k < n ∧ T k = 0 ∧ first ≤ k ∧ (∀ i, i < n → 0 < upF (upF T k 1) k (upF T k 1 k + 1) i) ∧ e = .returned (.int .i64 20) ∧ BaAt w' ba pm fp tb (o : Int) pages bv sv gvn tk F ∧ GuAt w' tb pm fp bl s q N o (rt : Int) c L (putB B (k * 256) (List.replicate 256 0)) bt bw n first T (upF O k o) quo (min n k) ∧ Chg [fp, bt, bw, q, tb, ba, bl] w w') ∨
      ((∀ i, i < n → 0 < T i) ∧ e = .returned (.int .i64 20) ∧ BaAt w' ba pm fp tb (o : Int) pages bv sv gvn tk F ∧ GuAt w' tb pm fp bl s q N o (rt : Int) c L B bt bw n first T O quo n ∧ Chg [fp, bt, bw, q, tb, ba, bl] w w') := by
  have hwr := bwrong_ok hba (page := page) (by omega) hpp
  have hlo := Look_any h.st hp
  rw [hg] at hlo
  have wg : IntKind.i64.wrap (gvn + 1) = gvn + 1 := by rw [IntKind.wrap_i64]; omega
  have HAL := Lib.hid (fun W (hF : FrAt W fp bt bw n first T O quo low) => alloc_all hF ho17 hq)
  have HCL := Lib.hid (fun W C (k : Nat) (hk : k < n) (hM : Mem W pm q N C) => Clear_ok hM k (by have := h.hnN; omega))
  have HMP := Lib.hid (fun W (k : Nat) (hk : k < n) (hTk : T k = 0) (hfk : first ≤ k) (hG : GuAt W tb pm fp bl s q N o (rt : Int) c L (putB B (k * 256) (List.replicate 256 0)) bt bw n first (upF T k 1) (upF O k o) quo k) => Map_new hG hp true true true rfl hk (by
      unfold rdP
      rw [hl]
      exact gok0) (by rw [upF_same]; omega) (by rw [upF_same]; omega) (by rw [upF_same]) hfk hl hrt hck (hq0 k hk hTk) hs (by omega))
  have hback : ∀ k, T k = 0 → upF (upF T k 1) k 0 = T := fun k hk => by
    funext i
    unfold upF
    by_cases hi : i = k
    · rw [if_pos hi, hi, hk]
    · rw [if_neg hi, if_neg hi]
  have HFR := Lib.hid (fun W (k : Nat) (hk : k < n) (hTk : T k = 0) (hfk : first ≤ k) (hF : FrAt W fp bt bw n first (upF T k 1) (upF O k o) quo n) => by have := Free_last hF hk (by rw [upF_same]) (by rw [upF_same] : upF O k o k = o) hfk; rw [hback k hTk] at this; exact this)
  generalize rdP N B L page = v at *
  have HB := Lib.hid hba
  have HH := Lib.hid h
  have lt := hba.row.lt
  have c2 : w.cell? ⟨ba, 2, none⟩ = some (.pointer (some ⟨tb, 0, none⟩)) := hba.row.cell 2
  clear hba h hpp hg ho17 hq hl hrt hq0 hs hck hgv hback
  go_enter Tryd.func36, Tryd.ntmps36
  go_wp2_with fail
  refine (hwr).mono ?_
  rintro _ _ ⟨rfl, hw⟩
  rw [hw]
  clear hw
  go_wp2_with fail
  refine hlo.mono ?_
  rintro _ w1 ⟨rfl, hg1⟩
  clear hlo hwr c2 lt
  go_upto_region 5 with fail
  obtain ⟨W2, hW2⟩ : ∃ W2, W2 = w1.alloc (Obj.cells #[.bool (eb v 1), .bool (eb v 2), .bool (eb v 3)] 23) := ⟨_, rfl⟩
  rw [← hW2]
  have hg2 : Grows w W2 := by rw [hW2]; exact hg1.alloc _
  have HB2 := Lib.hid (HB.out.chg (Chg.of_grows (S := []) hg2) (by simp) (by simp))
  have HH2 := Lib.hid (HH.out.grows hg2)
  have HC2 := Lib.hid (Chg.of_grows (S := [fp, bt, bw, q, tb, ba, bl]) hg2)
  clear hW2 hg1 hg2 HB HH
  have lt := HB2.out.row.lt
  go_wp2_with fail
  have HSG := Lib.hid (fun (w' : World) (h : Row w' ba (baL pm fp tb (o : Int) pages bv gvn tk) 100) => (⟨h.cell 1, h.cell 3⟩ : w'.cell? ⟨ba, 1, none⟩ = some (.pointer (some ⟨fp, 0, none⟩)) ∧ w'.cell? ⟨ba, 3, none⟩ = some (.int .i64 o)))
  go_region_held3 (fun w' => w'.cell? ⟨ba, 1, none⟩ = some (.pointer (some ⟨fp, 0, none⟩)) ∧ w'.cell? ⟨ba, 3, none⟩ = some (.int .i64 o)) (first
    | with_reducible exact HSG.out _ ((HB2.out.row.grows ((Grows.refl _).drew)).chg HC3.out (by simp; omega))
    | with_reducible exact HSG.out _ (HB2.out.row.grows ((Grows.refl _).drew))) (first
    | (go_at_call 29; refine (HAL.out _ (HH2.out.grows ((Grows.refl _).drew)).fr).mono ?_; rintro _ w3 ⟨tv, ee, rfl, hA3, hC3⟩
       have HA3 := Lib.hid hA3
       have HC3 := Lib.hid hC3
       clear hA3 hC3))
  all_goals
    have HB3 := Lib.hid ((HB2.out.chg (Chg.of_grows (S := []) ((Grows.refl W2).drew)) (by simp) (by simp)).chg HC3.out (by simp; omega) (by simp; omega))
    have HC4 := Lib.hid ((HC2.out.drew).trans (HC3.out.weaken (T := [fp, bt, bw, q, tb, ba, bl]) (fun k hk => Or.inl (by simp at hk ⊢; omega))))
    rcases HA3.out with ⟨k, hk, hlow, hTk, hfk, rfl, rfl, hF3⟩ | ⟨hall, rfl, rfl, hF3⟩
    · have HH3 := Lib.hid ((HH2.out.grows ((Grows.refl _).drew)).framed hF3 HC3.out)
      have HA := Lib.hid (show k < n ∧ (∀ i, i < k → 0 < T i) ∧ T k = 0 ∧ first ≤ k from ⟨hk, hlow, hTk, hfk⟩)
      clear HB2 HH2 HC2 HC3 HA3 HSG HAL hk hlow hTk hfk hF3 lt
      have lt := HB3.out.row.lt
      have c0 : w3.cell? ⟨ba, 0, none⟩ = some (.pointer (some ⟨pm, 0, none⟩)) := HB3.out.row.cell 0
      go_wp2_with fail
      refine (HCL.out w3 _ k HA.out.1 HH3.out.st.mem).mono ?_
      rintro _ w4 ⟨rfl, hM4, hC4⟩
      have HH4 := Lib.hid (HH3.out.wrote hM4 hC4)
      have HB4 := Lib.hid (HB3.out.chg hC4 (by simp; omega) (by simp; omega))
      have HC5 := Lib.hid (HC4.out.trans (hC4.weaken (T := [fp, bt, bw, q, tb, ba, bl]) (fun k hk => Or.inl (by simp at hk ⊢; omega))))
      clear hM4 hC4 HH3 HB3 HC4 HCL c0 lt
      have lt := HB4.out.row.lt
      have c2 : w4.cell? ⟨ba, 2, none⟩ = some (.pointer (some ⟨tb, 0, none⟩)) := HB4.out.row.cell 2
      go_wp2_with fail
      refine (HMP.out w4 k HA.out.1 HA.out.2.2.1 HA.out.2.2.2 HH4.out).mono ?_
      rintro _ w5 ⟨⟨t, ht1, ht2, ht3, ht4, rfl, hG5⟩ | ⟨hall5, rfl, hG5⟩, hC5⟩
      · have HH5 := Lib.hid hG5
        have HB5 := Lib.hid (HB4.out.chg hC5 (by simp; omega) (by simp; omega))
        have HC6 := Lib.hid (HC5.out.trans (hC5.weaken (T := [fp, bt, bw, q, tb, ba, bl]) (fun k hk => Or.inl (by simp at hk ⊢; omega))))
        have HTT := Lib.hid (⟨ht1, ht2, ht3, ht4⟩ : t < n ∧ (∀ i, i < t → 0 < upF (upF T k 1) k (upF T k 1 k + 1) i) ∧ upF (upF T k 1) k (upF T k 1 k + 1) t = 0 ∧ first ≤ t)
        clear hG5 hC5 HH4 HB4 HC5 HMP HFR c2 lt ht1 ht2 ht3 ht4
        have lt := HB5.out.row.lt
        have d6 : w5.cell? ⟨ba, 6, none⟩ = some (.int .i64 gvn) := HB5.out.row.cell 6
        have f6 := HB5.out.row.frozen 6
        go_wp2_with fail
        go_ret
        have hc7 : Chg [ba] w5 (w5.setCell ⟨ba, 6, none⟩ (.int .i64 (gvn + 1))) := (Chg.refl _ _).setCell (Or.inl (by simp)) _ _
        exact Or.inl ⟨k, t, HA.out.1, HA.out.2.1, HA.out.2.2.1, HA.out.2.2.2, HTT.out.1, HTT.out.2.1, HTT.out.2.2.1, HTT.out.2.2.2, rfl, ⟨baL_gv HB5.out.row (gvn + 1), HB5.out.wm.of_block (hc7.get HB5.out.wm.lt (by simp; exact fun e => HB5.out.ne e.symm)), HB5.out.ne⟩, HH5.out.apart hc7 (by simp; omega) (by simp; omega) (by simp; omega) (by simp; omega) (by simp; omega) (by simp; omega) (by simp; omega), HC6.out.trans (hc7.weaken (T := [fp, bt, bw, q, tb, ba, bl]) (fun k hk => Or.inl (by simp at hk ⊢; omega)))⟩
      · have HH5 := Lib.hid hG5
        have HB5 := Lib.hid (HB4.out.chg hC5 (by simp; omega) (by simp; omega))
        have HC6 := Lib.hid (HC5.out.trans (hC5.weaken (T := [fp, bt, bw, q, tb, ba, bl]) (fun k hk => Or.inl (by simp at hk ⊢; omega))))
        have HTT := Lib.hid hall5
        clear hG5 hC5 HH4 HB4 HC5 HMP c2 lt hall5
        have lt := HB5.out.row.lt
        go_wp2_with fail
        have HSG := Lib.hid (fun (w' : World) (h : Row w' ba (baL pm fp tb (o : Int) pages bv gvn tk) 100) => (⟨h.cell 1, h.cell 3⟩ : w'.cell? ⟨ba, 1, none⟩ = some (.pointer (some ⟨fp, 0, none⟩)) ∧ w'.cell? ⟨ba, 3, none⟩ = some (.int .i64 o)))
        go_region_held3 (fun w' => w'.cell? ⟨ba, 1, none⟩ = some (.pointer (some ⟨fp, 0, none⟩)) ∧ w'.cell? ⟨ba, 3, none⟩ = some (.int .i64 o)) (first
          | with_reducible exact HSG.out _ ((HB5.out.row.grows ((Grows.refl _).drew)).chg HC7.out (by simp; omega))
          | with_reducible exact HSG.out _ (HB5.out.row.grows ((Grows.refl _).drew))) (first
          | (go_at_call 42; refine (HFR.out _ k HA.out.1 HA.out.2.2.1 HA.out.2.2.2 (HH5.out.grows ((Grows.refl _).drew)).fr).mono ?_; rintro _ w6 ⟨rfl, hF6, hC7⟩
             have HF6 := Lib.hid hF6
             have HC7 := Lib.hid hC7
             clear hF6 hC7))
        all_goals
          have HH6 := Lib.hid ((HH5.out.grows ((Grows.refl _).drew)).framed HF6.out HC7.out)
          have HB6 := Lib.hid ((HB5.out.chg (Chg.of_grows (S := []) ((Grows.refl w5).drew)) (by simp) (by simp)).chg HC7.out (by simp; omega) (by simp; omega))
          have HC8 := Lib.hid ((HC6.out.drew).trans (HC7.out.weaken (T := [fp, bt, bw, q, tb, ba, bl]) (fun k hk => Or.inl (by simp at hk ⊢; omega))))
          clear HH5 HB5 HC6 HC7 HF6 HSG HFR lt
          go_wp2_with fail
          go_ret
          exact Or.inr (Or.inl ⟨k, HA.out.1, HA.out.2.2.1, HA.out.2.2.2, HTT.out, rfl, HB6.out, HH6.out, HC8.out⟩)
    · have HH3 := Lib.hid ((HH2.out.grows ((Grows.refl _).drew)).framed hF3 HC3.out)
      have HA := Lib.hid hall
      clear HB2 HH2 HC2 HC3 HA3 HSG HAL HMP HFR HCL hall hF3
      go_wp2_with fail
      go_ret
      exact Or.inr (Or.inr ⟨HA.out, rfl, HB3.out, HH3.out, HC4.out⟩)
end Go.Proofs.YtlchlklbjocliaaDoor

/- Balloons that no call made; New of the package balloon. -/
namespace Go.Proofs.YtlchlklbjocliaaDoor
open Go Go.RowKit
set_option linter.unusedSimpArgs false
set_option linter.unusedVariables false
set_option maxRecDepth 100000
def NoBa (w : World) (v : Option Addr) : Prop := v = none ∨ ∃ p, v = some ⟨p, 0, none⟩ ∧ p < w.heap.size ∧ w.cell? ⟨p, 5, none⟩ = some (.map none)
theorem NoBa.grows {w w' : World} {v : Option Addr} (h : NoBa w v) (hg : Grows w w') : NoBa w' v := by
  rcases h with h | ⟨p, h, h1, h2⟩
  · exact Or.inl h
  · exact Or.inr ⟨p, h, hg.lt h1, by rw [hg.cell h1]; exact h2⟩
theorem eqlNilB : ∀ w, (binOp .eql 98 (.map none) (.map none)).run Tryd.prog w = .ok (.bool true) w := fun w => by kernel_rfl
theorem bwrong_nob {w : World} {v : Option Addr} (h : NoBa w v) (page : Int) :
    Calls Tryd.prog 75 #[.pointer v, .int .i64 page] w fun r w' => r = .returned (.int .i64 1) ∧ w' = w := by
  rcases h with rfl | ⟨p, rfl, h1, h2⟩
  · go_enter Tryd.func75, Tryd.ntmps75
    go_wp2_with fail
    go_ret
    exact ⟨rfl, rfl⟩
  · have hb := eqlNilB
    go_enter Tryd.func75, Tryd.ntmps75
    go_wp2_with fail
    go_ret
    exact ⟨rfl, rfl⟩
theorem Give_nob {w : World} {v : Option Addr} (h : NoBa w v) (page : Int) :
    Calls Tryd.prog 36 #[.pointer v, .int .i64 page] w fun r w' => r = .returned (.int .i64 1) ∧ w' = w := by
  go_enter Tryd.func36, Tryd.ntmps36
  go_wp2_with fail
  refine (bwrong_nob h page).mono ?_
  rintro _ _ ⟨rfl, hw⟩
  rw [hw]
  clear hw
  go_wp2_with fail
  go_ret
  exact ⟨rfl, rfl⟩
theorem Take_nob {w : World} {v : Option Addr} (h : NoBa w v) (page : Int) :
    Calls Tryd.prog 34 #[.pointer v, .int .i64 page] w fun r w' => r = .returned (.tuple #[.int .i64 0, .int .i64 1]) ∧ w' = w := by
  go_enter Tryd.func34, Tryd.ntmps34
  go_wp2_with fail
  refine (bwrong_nob h page).mono ?_
  rintro _ _ ⟨rfl, hw⟩
  rw [hw]
  clear hw
  go_wp2_with fail
  go_ret2
  exact ⟨rfl, rfl⟩
theorem Return_nob {w : World} {v : Option Addr} (h : NoBa w v) (page frame : Int) :
    Calls Tryd.prog 40 #[.pointer v, .int .i64 page, .int .i64 frame] w fun r w' => r = .returned (.int .i64 1) ∧ w' = w := by
  go_enter Tryd.func40, Tryd.ntmps40
  go_wp2_with fail
  refine (bwrong_nob h page).mono ?_
  rintro _ _ ⟨rfl, hw⟩
  rw [hw]
  clear hw
  go_wp2_with fail
  go_ret
  exact ⟨rfl, rfl⟩
theorem Settle_nob {w : World} {v : Option Addr} (h : NoBa w v) (frame : Int) :
    Calls Tryd.prog 35 #[.pointer v, .int .i64 frame] w fun r w' => r = .returned (.int .i64 1) ∧ w' = w := by
  rcases h with rfl | ⟨p, rfl, h1, h2⟩
  · go_enter Tryd.func35, Tryd.ntmps35
    go_wp2_with fail
    go_ret
    exact ⟨rfl, rfl⟩
  · have hb := eqlNilB
    go_enter Tryd.func35, Tryd.ntmps35
    go_wp2_with fail
    go_ret
    exact ⟨rfl, rfl⟩
theorem Told_nob {w : World} {v : Option Addr} (h : NoBa w v) :
    Calls Tryd.prog 39 #[.pointer v] w fun r w' => r = .returned (.agg #[.int .i64 0, .int .i64 0, .int .i64 0]) ∧ Grows w w' := by
  rcases h with rfl | ⟨p, rfl, h1, h2⟩
  · go_enter Tryd.func39, Tryd.ntmps39
    go_wp2_with fail
    exact bodyPost_ret (v := .agg #[.int .i64 0, .int .i64 0, .int .i64 0]) (by simp [results, Tryd.results39, go_sem]) rfl ⟨rfl, by first | exact (Grows.refl _).alloc _⟩
  · have hb := eqlNilB
    go_enter Tryd.func39, Tryd.ntmps39
    go_wp2_with fail
    exact bodyPost_ret (v := .agg #[.int .i64 0, .int .i64 0, .int .i64 0]) (by simp [results, Tryd.results39, go_sem]) rfl ⟨rfl, by first | exact (Grows.refl _).alloc _⟩
theorem bnew_mem {w : World} {v : Option Addr} (h : NoMem w v) (f t : Option Addr) (g pages : Int) :
    Calls Tryd.prog 33 #[.pointer v, .pointer f, .pointer t, .int .i64 g, .int .i64 pages] w fun r w' => r = .returned (.tuple #[.pointer none, .int .i64 1]) ∧ Grows w w' := by
  go_enter Tryd.func33, Tryd.ntmps33
  go_wp2_with fail
  refine (frames_nob h).mono ?_
  rintro _ _ ⟨rfl, hw⟩
  rw [hw]
  clear hw
  go_wp2_with fail
  go_ret2
  exact ⟨rfl, Grows.refl _⟩
theorem bnew_fr {w : World} {p q n : Nat} {B : Nat → Nat} (h : Mem w p q n B) (hn : n / 256 ≠ 0) {v : Option Addr} (hf : NoFr w v) (t : Option Addr) (g pages : Int) :
    Calls Tryd.prog 33 #[.pointer (some ⟨p, 0, none⟩), .pointer v, .pointer t, .int .i64 g, .int .i64 pages] w fun r w' => r = .returned (.tuple #[.pointer none, .int .i64 1]) ∧ Grows w w' := by
  have hd : (((n / 256 : Nat) : Int) == 0) = false := by simp; omega
  go_enter Tryd.func33, Tryd.ntmps33
  go_wp2_with fail
  refine (frames_any h).mono ?_
  rintro _ _ ⟨rfl, hw⟩
  rw [hw]
  clear hw
  generalize ((n / 256 : Nat) : Int) = N at *
  go_wp2_with fail
  refine (Quota_nob hf _ _).mono ?_
  rintro _ w1 ⟨rfl, hg1⟩
  go_wp2_with fail
  go_ret2
  exact ⟨rfl, hg1⟩
theorem bnew_tb {w : World} {p q N fp bt bw n first low : Nat} {B T O : Nat → Nat} {quo : Nat → Int} (hM : Mem w p q N B) (hF : FrAt w fp bt bw n first T O quo low) (hN : N / 256 ≠ 0) {v : Option Addr} (ht : NoTb w v) (g pages : Int) :
    Calls Tryd.prog 33 #[.pointer (some ⟨p, 0, none⟩), .pointer (some ⟨fp, 0, none⟩), .pointer v, .int .i64 g, .int .i64 pages] w fun r w' => r = .returned (.tuple #[.pointer none, .int .i64 1]) ∧ Grows w w' := by
  have hd : (((N / 256 : Nat) : Int) == 0) = false := by simp; omega
  have hfm := frames_any hM
  have hqu := Quota_bad hF 0 (-1) (Or.inr (by omega))
  go_enter Tryd.func33, Tryd.ntmps33
  go_wp2_with fail
  refine (hfm).mono ?_
  rintro _ _ ⟨rfl, hw⟩
  rw [hw]
  clear hw
  generalize ((N / 256 : Nat) : Int) = NN at *
  go_wp2_with fail
  refine hqu.mono ?_
  rintro _ w1 ⟨rfl, hg1⟩
  go_wp2_with fail
  refine (Protect_nob (ht.grows hg1) _ _ _ _).mono ?_
  rintro _ w2 ⟨rfl, hg2⟩
  have hg := hg1.trans hg2
  clear hM hF hfm hqu hg1 hg2 hd
  go_wp2_with fail
  go_ret2
  exact ⟨rfl, hg⟩
theorem bnew_arg {w : World} {p q N fp bt bw n first low tb pm pf bl : Nat} {B T O : Nat → Nat} {quo : Nat → Int} {tg root : Int} {c : Nat → Int} (hM : Mem w p q N B) (hF : FrAt w fp bt bw n first T O quo low) (hN : N / 256 ≠ 0) (ht : TbAt w tb pm pf bl tg root true c) {g : Int} (hg17 : 16 < g) (pages : Int) :
    Calls Tryd.prog 33 #[.pointer (some ⟨p, 0, none⟩), .pointer (some ⟨fp, 0, none⟩), .pointer (some ⟨tb, 0, none⟩), .int .i64 g, .int .i64 pages] w fun r w' => r = .returned (.tuple #[.pointer none, .int .i64 2]) ∧ Grows w w' := by
  have d1 : decide (g < 1) = false := decide_eq_false (by omega)
  have d2 : decide (16 < g) = true := decide_eq_true hg17
  have hd : (((N / 256 : Nat) : Int) == 0) = false := by simp; omega
  have hfm := frames_any hM
  have hqu := Quota_bad hF 0 (-1) (Or.inr (by omega))
  go_enter Tryd.func33, Tryd.ntmps33
  go_wp2_with fail
  refine (hfm).mono ?_
  rintro _ _ ⟨rfl, hw⟩
  rw [hw]
  clear hw
  generalize ((N / 256 : Nat) : Int) = NN at *
  go_wp2_with fail
  refine hqu.mono ?_
  rintro _ w1 ⟨rfl, hg1⟩
  go_wp2_with fail
  refine (Protect_arg (ht.grows hg1) (page := -1) (Or.inl (by omega))).mono ?_
  rintro _ w2 ⟨rfl, hg2⟩
  have hg := hg1.trans hg2
  clear hM hF hfm hqu hg1 hg2 hd hg17
  go_wp2_with fail
  go_ret2
  exact ⟨rfl, hg⟩
theorem bnew_ok {w : World} {p q N fp bt bw n first low tb pm pf bl : Nat} {B T O : Nat → Nat} {quo : Nat → Int} {tg root : Int} {c : Nat → Int} (hM : Mem w p q N B) (hF : FrAt w fp bt bw n first T O quo low) (hN : N / 256 ≠ 0) (ht : TbAt w tb pm pf bl tg root true c) {g : Int} (hg1' : 1 ≤ g) (hg2' : g ≤ 16) {pages : Int} (hp : 0 ≤ pages) (hp2 : pages ≤ 1024) :
    Calls Tryd.prog 33 #[.pointer (some ⟨p, 0, none⟩), .pointer (some ⟨fp, 0, none⟩), .pointer (some ⟨tb, 0, none⟩), .int .i64 g, .int .i64 pages] w fun r w' => ∃ ba bl, r = .returned (.tuple #[.pointer (some ⟨ba, 0, none⟩), .int .i64 0]) ∧ Grows w w' ∧ w.heap.size ≤ ba ∧ w.heap.size ≤ bl ∧ ba ≠ bl ∧
      Row w' ba #[.pointer (some ⟨p, 0, none⟩), .pointer (some ⟨fp, 0, none⟩), .pointer (some ⟨tb, 0, none⟩), .int .i64 g, .int .i64 pages, .map (some bl), .int .i64 0, .int .i64 0, .int .i64 0] 100 := by
  have hmm := @run_makeMap Tryd.prog
  have d1 : decide (g < 1) = false := decide_eq_false (by omega)
  have d2 : decide (16 < g) = false := decide_eq_false (by omega)
  have d3 : decide (pages < 0) = false := decide_eq_false (by omega)
  have d4 : decide (1024 < pages) = false := decide_eq_false (by omega)
  have hd : (((N / 256 : Nat) : Int) == 0) = false := by simp; omega
  have hfm := frames_any hM
  have hqu := Quota_bad hF 0 (-1) (Or.inr (by omega))
  go_enter Tryd.func33, Tryd.ntmps33
  go_wp2_with fail
  refine (hfm).mono ?_
  rintro _ _ ⟨rfl, hw⟩
  rw [hw]
  clear hw
  generalize ((N / 256 : Nat) : Int) = NN at *
  go_wp2_with fail
  refine hqu.mono ?_
  rintro _ w1 ⟨rfl, hg1⟩
  go_wp2_with fail
  refine (Protect_arg (ht.grows hg1) (page := -1) (Or.inl (by omega))).mono ?_
  rintro _ w2 ⟨rfl, hg2⟩
  have hg := hg1.trans hg2
  have hs := hg.size
  clear hM hF hfm hqu hg1 hg2 hd
  go_wp2_with fail
  go_ret2
  exact ⟨w2.heap.size + 1, w2.heap.size, rfl, (hg.alloc _).alloc _, by omega, hs, by omega, Row.new_at _ _ _ (by simp)⟩
end Go.Proofs.YtlchlklbjocliaaDoor

/- The balloon of chapter 25's begin, with all that stands. -/
namespace Go.Proofs.YtlchlklbjocliaaDoor
open Go Go.RowKit
set_option linter.unusedSimpArgs false
set_option linter.unusedVariables false
set_option maxRecDepth 100000
theorem bnew_ok2 {w : World} {p q N fp bt bw n first low tb pm pf bl : Nat} {B T O : Nat → Nat} {quo : Nat → Int} {tg root : Int} {c : Nat → Int} (hM : Mem w p q N B) (hF : FrAt w fp bt bw n first T O quo low) (hN : N / 256 ≠ 0) (ht : TbAt w tb pm pf bl tg root true c) {g : Int} (hg1' : 1 ≤ g) (hg2' : g ≤ 16) {pages : Int} (hp : 0 ≤ pages) (hp2 : pages ≤ 1024) :
    Calls Tryd.prog 33 #[.pointer (some ⟨p, 0, none⟩), .pointer (some ⟨fp, 0, none⟩), .pointer (some ⟨tb, 0, none⟩), .int .i64 g, .int .i64 pages] w fun r w' => ∃ ba bl, r = .returned (.tuple #[.pointer (some ⟨ba, 0, none⟩), .int .i64 0]) ∧ Grows w w' ∧ w.heap.size ≤ ba ∧ w.heap.size ≤ bl ∧ ba ≠ bl ∧
      BaAt w' ba p fp tb g pages bl 0 0 0 (fun _ => none) := by
  have hmm := @run_makeMap Tryd.prog
  have d1 : decide (g < 1) = false := decide_eq_false (by omega)
  have d2 : decide (16 < g) = false := decide_eq_false (by omega)
  have d3 : decide (pages < 0) = false := decide_eq_false (by omega)
  have d4 : decide (1024 < pages) = false := decide_eq_false (by omega)
  have hd : (((N / 256 : Nat) : Int) == 0) = false := by simp; omega
  have hfm := frames_any hM
  have hqu := Quota_bad hF 0 (-1) (Or.inr (by omega))
  go_enter Tryd.func33, Tryd.ntmps33
  go_wp2_with fail
  refine (hfm).mono ?_
  rintro _ _ ⟨rfl, hw⟩
  rw [hw]
  clear hw
  generalize ((N / 256 : Nat) : Int) = NN at *
  go_wp2_with fail
  refine hqu.mono ?_
  rintro _ w1 ⟨rfl, hg1⟩
  go_wp2_with fail
  refine (Protect_arg (ht.grows hg1) (page := -1) (Or.inl (by omega))).mono ?_
  rintro _ w2 ⟨rfl, hg2⟩
  have hg := hg1.trans hg2
  have hs := hg.size
  clear hM hF hfm hqu hg1 hg2 hd
  go_wp2_with fail
  go_ret2
  exact ⟨w2.heap.size + 1, w2.heap.size, rfl, (hg.alloc _).alloc _, by omega, hs, by omega, ⟨Row.new_at _ _ _ (by simp), (BMap.made w2 Tryd.prog 3 4).grows ((Grows.refl _).alloc _), by omega⟩⟩
set_option maxHeartbeats 4000000 in
/-- begin of chapter 25: a balloon, its tables, its frames and its memory, apart from one another. -/
theorem begin2 {W : World} (hT : Widths W) (hP : Places W) {n : Nat} (h1 : 2 ≤ n) (h2 : n ≤ 65536) {pages : Int} (hp : 0 ≤ pages) (hp2 : pages ≤ 1024) :
    Calls Tryd.prog 32 #[.int .i64 n, .int .i64 pages] W fun r w' => ∃ wb pm q fp bt bw tb bl ba bv k : Nat, r = .returned (.pointer (some ⟨wb, 0, none⟩)) ∧ Row w' wb #[.pointer (some ⟨pm, 0, none⟩), .pointer (some ⟨fp, 0, none⟩), .pointer (some ⟨tb, 0, none⟩), .pointer (some ⟨ba, 0, none⟩)] 89 ∧
      BaAt w' ba pm fp tb ((3 : Nat) : Int) pages bv 0 0 0 (fun _ => none) ∧ GuAt w' tb pm fp bl 0 q (n * 256) 3 (k : Int) (fun _ => 0) (fun _ => none) (putB (fun _ => 0) (k * 256) (List.replicate 256 0)) bt bw n 1 (upF (fstT 1) k 1) (upF (fun _ => 0) k 0) (fun _ => (n : Int)) k ∧ (k < n ∧ fstT 1 k = 0) ∧
      (ba ≠ fp ∧ ba ≠ bt ∧ ba ≠ bw ∧ ba ≠ q ∧ ba ≠ tb ∧ ba ≠ pm ∧ ba ≠ bl ∧ ba ≠ 1 ∧ ba ≠ 0) ∧ (bv ≠ fp ∧ bv ≠ bt ∧ bv ≠ bw ∧ bv ≠ q ∧ bv ≠ tb ∧ bv ≠ pm ∧ bv ≠ bl ∧ bv ≠ 1 ∧ bv ≠ 0) ∧ (wb ≠ fp ∧ wb ≠ bt ∧ wb ≠ bw ∧ wb ≠ q ∧ wb ≠ tb ∧ wb ≠ bl ∧ wb ≠ ba ∧ wb ≠ bv) ∧ (W.heap.size ≤ fp ∧ W.heap.size ≤ bt ∧ W.heap.size ≤ bw ∧ W.heap.size ≤ q ∧ W.heap.size ≤ tb ∧ W.heap.size ≤ bl ∧ W.heap.size ≤ ba ∧ W.heap.size ≤ bv ∧ W.heap.size ≤ wb) ∧ Grows W w' := by
  have hn : n * 256 / 256 = n := by omega
  have HTP := Lib.hid (⟨hT, hP, hT.1, hP.1⟩ : Widths W ∧ Places W ∧ 1 < W.heap.size ∧ 0 < W.heap.size)
  clear hT hP
  go_enter Tryd.func32, Tryd.ntmps32
  go_wp2_with fail
  refine (new_ok n (by omega) (by omega) _).mono ?_
  rintro _ w1 ⟨p, q, rfl, hM1, hg1, hp1, hq1, hqp⟩
  have hfn := fnew_ok w1 (n := n) (first := 1) (by omega) (by omega) (by omega)
  go_wp2_with fail
  refine hfn.mono ?_
  rintro _ w2 ⟨fp, bt, bw, rfl, hF2, hg2, hfp, hbt, hbw⟩
  have hM2 := MemAt.grows hM1 hg2
  have hs1 := hg1.size
  have hs2 := hg2.size
  have hpl := hM1.plt
  have hql := hM1.qlt
  have hfl := hF2.row.lt
  have htl := hF2.tm.lt
  have hwl : bw < w2.heap.size := by obtain ⟨s', g', _, g2, _⟩ := hF2.wh; exact g2.lt
  have hst := snew_ok hM2 hF2 (g := 3) (by omega) (by omega) (by rw [ownC_fst n 1 (by omega)]; simp [upF]; omega) (by omega) (by omega) (by omega) ⟨1, by omega, fstT_at 1⟩
  clear hfn
  go_wp2_with fail
  refine hst.mono ?_
  rintro _ w3 ⟨tb, bl, k, rfl, hk, hTk, hT3, hI3, htb, hbl, hne, hF3, hM3, hc3⟩
  have hbn := bnew_ok2 hM3 hF3 (by omega) hT3 (g := 3) (by omega) (by omega) hp hp2
  have htl3 := hT3.row.lt
  have hbl3 := hI3.lt
  have hs3 := hc3.size
  have HG3 : Hid (Grows W w3) := Lib.hid (hc3.to_grows (hg1.trans hg2) (by simp; omega))
  have HD := Lib.hid (show (fp < w3.heap.size ∧ bt < w3.heap.size ∧ bw < w3.heap.size ∧ q < w3.heap.size ∧ p < w3.heap.size ∧ tb < w3.heap.size ∧ bl < w3.heap.size ∧ W.heap.size ≤ w3.heap.size) ∧ (p ≠ fp ∧ p ≠ bt ∧ p ≠ bw ∧ q ≠ fp ∧ q ≠ bt ∧ q ≠ bw) ∧ (tb ≠ fp ∧ tb ≠ bt ∧ tb ≠ bw ∧ tb ≠ p ∧ tb ≠ bl) ∧ (bl ≠ fp ∧ bl ≠ bt ∧ bl ≠ bw ∧ bl ≠ p) ∧ (q ≠ tb ∧ q ≠ bl) ∧ (W.heap.size ≤ fp ∧ W.heap.size ≤ bt ∧ W.heap.size ≤ bw ∧ W.heap.size ≤ q ∧ W.heap.size ≤ tb ∧ W.heap.size ≤ bl) by omega)
  have HM3 := Lib.hid hM3
  have HF3 := Lib.hid hF3
  have HT3 := Lib.hid hT3
  have HI3 := Lib.hid hI3
  have HK := Lib.hid (⟨hk, hTk⟩ : k < n ∧ fstT 1 k = 0)
  clear hst hM1 hg1 hp1 hq1 hqp hF2 hg2 hfp hbt hbw hM2 hs1 hs2 hpl hql hk hTk hT3 hI3 htb hbl hne hF3 hM3 hc3 hfl htl hwl htl3 hbl3 hs3
  go_wp2_with fail
  refine hbn.mono ?_
  rintro _ w4 ⟨ba, bv, rfl, hg4, hba, hbv, hne2, hB4⟩
  have HG4 := Lib.hid (HG3.out.trans hg4)
  have HG34 := Lib.hid hg4
  have HB4 := Lib.hid hB4
  have HBA := Lib.hid (⟨hba, hbv⟩ : w3.heap.size ≤ ba ∧ w3.heap.size ≤ bv)
  clear hbn hg4 hba hbv hne2 hB4 HG3
  go_wp2_with fail
  go_ret
  have hg5 := (Grows.refl w4).alloc (Obj.cells #[.pointer (some ⟨p, 0, none⟩), .pointer (some ⟨fp, 0, none⟩), .pointer (some ⟨tb, 0, none⟩), .pointer (some ⟨ba, 0, none⟩)] 89)
  have hgw := HG4.out.trans hg5
  have hg35 := HG34.out.trans hg5
  obtain ⟨e1, e2, e3, e4, e5, e6⟩ := HD.out
  obtain ⟨t1, t2, t3, t4⟩ := HTP.out
  obtain ⟨a1, a2⟩ := HBA.out
  have l1 := HB4.out.row.lt
  have l2 := HB4.out.wm.lt
  have l3 := HG34.out.size
  exact ⟨w4.heap.size, p, q, fp, bt, bw, tb, bl, ba, bv, k, rfl, Row.new_at _ _ _ rfl, HB4.out.chg (Chg.of_grows (S := []) hg5) (by simp) (by simp), ⟨⟨HT3.out.grows hg35, HI3.out.grows hg35, MemAt.grows HM3.out hg35, t1.grows hgw, t2.grows hgw, (fun k' t' hh => by cases hh), ⟨e5.1, e5.2, by omega, by omega⟩⟩, HF3.out.grows hg35, by omega, e2, e3, e4, (fun b hb => by omega)⟩, HK.out, by omega, by omega, by omega, by omega, hgw⟩
end Go.Proofs.YtlchlklbjocliaaDoor

/- What stands in a table behind a write: plain facts for the laws of stage and balloon. -/
namespace Go.Proofs.YtlchlklbjocliaaDoor
open Go Go.RowKit
set_option linter.unusedSimpArgs false
set_option linter.unusedVariables false
set_option maxRecDepth 100000
theorem load8 (V : Nat) (h : V < 18446744073709551616) : loadN (leB V 8) = V := by
  unfold loadN
  rw [if_neg (by rw [leB_length]; decide), leN_leB]
  exact Nat.mod_eq_of_lt h
theorem gv_same {N : Nat} {B : Nat → Nat} {a V : Nat} (h8 : a % 8 = 0) (ha : a + 8 ≤ N) (hV : V < 18446744073709551616) : gv N (putB B a (leB V 8)) a = V := by
  unfold gv
  have h0 : numE N a 8 = 0 := numE_zero (W := 8) (by decide) h8 ha
  rw [if_pos h0]
  have := segB_putB B a (leB V 8)
  rw [leB_length] at this
  rw [this]
  exact load8 V hV
theorem leaf_tells {f : Nat} (h : f < 256) (r w x : Bool) (hr : rightR r w x = true) : gok (packN true r w x true false false f) = true ∧ ef (packN true r w x true false false f) = f ∧ eb (packN true r w x true false false f) 1 = r ∧ eb (packN true r w x true false false f) 2 = w ∧ eb (packN true r w x true false false f) 3 = x := by
  have hd : ∀ (f : Fin 256) (r w x : Bool), rightR r w x = true → gok (packN true r w x true false false (f.val : Nat)) = true ∧ ef (packN true r w x true false false (f.val : Nat)) = f.val ∧ eb (packN true r w x true false false (f.val : Nat)) 1 = r ∧ eb (packN true r w x true false false (f.val : Nat)) 2 = w ∧ eb (packN true r w x true false false (f.val : Nat)) 3 = x := by decide +kernel
  exact hd ⟨f, h⟩ r w x hr
theorem none_tells : packN false false false false false false false 0 = 0 ∧ gok (packN false false false false false false false 0) = false := by decide
theorem table_tells {t : Nat} (h : t < 256) : gok (packN true false false false false false false t) = true ∧ ef (packN true false false false false false false t) = t ∧ eb (packN true false false false false false false t) 1 = false ∧ eb (packN true false false false false false false t) 3 = false := by
  have hd : ∀ (t : Fin 256), gok (packN true false false false false false false (t.val : Nat)) = true ∧ ef (packN true false false false false false false (t.val : Nat)) = t.val ∧ eb (packN true false false false false false false (t.val : Nat)) 1 = false ∧ eb (packN true false false false false false false (t.val : Nat)) 3 = false := by decide +kernel
  exact hd ⟨t, h⟩
/-- A page's entry behind a write of its own. -/
theorem rdP_same {N : Nat} {B : Nat → Nat} {L : Int → Option Int} {page t V : Nat} (hl : L ((page / 32 : Nat) : Int) = some (t : Int)) (hin : t * 256 + 256 ≤ N) (hV : V < 18446744073709551616) : rdP N (putB B (t * 256 + 8 * (page % 32)) (leB V 8)) L page = V := by
  unfold rdP
  rw [hl]
  show gv N (putB B (t * 256 + 8 * (page % 32)) (leB V 8)) (t * 256 + 8 * (page % 32)) = V
  exact gv_same (by omega) (by omega) hV
/-- A page's entry behind a write elsewhere. -/
theorem rdP_apart {N : Nat} {B : Nat → Nat} {L : Int → Option Int} {page a : Nat} {bs : List Nat} (h : ∀ t : Nat, L ((page / 32 : Nat) : Int) = some (t : Int) → t * 256 + 8 * (page % 32) + 8 ≤ a ∨ a + bs.length ≤ t * 256 + 8 * (page % 32)) (hL : ∀ k t, L k = some t → 0 ≤ t) : rdP N (putB B a bs) L page = rdP N B L page := by
  unfold rdP
  cases hl : L ((page / 32 : Nat) : Int) with
  | none => rfl
  | some t =>
    obtain ⟨t, rfl⟩ := Int.eq_ofNat_of_zero_le (hL _ _ hl)
    exact gv_other (h t hl)
/-- Two pages of one table have two places. -/
theorem page_apart {p p' t : Nat} (hk : p / 32 = p' / 32) (hn : p ≠ p') : t * 256 + 8 * (p % 32) + 8 ≤ t * 256 + 8 * (p' % 32) ∨ t * 256 + 8 * (p' % 32) + 8 ≤ t * 256 + 8 * (p % 32) := by omega
/-- The map of lower tables with one more. -/
theorem rdP_new {N : Nat} {B : Nat → Nat} {L : Int → Option Int} {page t : Nat} : rdP N B (imUpd L ((page / 32 : Nat) : Int) t) page = gv N B (t * 256 + 8 * (page % 32)) := by
  unfold rdP imUpd
  rw [if_pos rfl]
  rfl
end Go.Proofs.YtlchlklbjocliaaDoor

/- The package balloon: Told. -/
namespace Go.Proofs.YtlchlklbjocliaaDoor
open Go Go.RowKit
set_option linter.unusedSimpArgs false
set_option linter.unusedVariables false
set_option maxRecDepth 100000
theorem eq_told (a b c a' b' c' : Int) (w : World) :
   (binOp .eql 96 (.agg #[.int .i64 a, .int .i64 b, .int .i64 c]) (.agg #[.int .i64 a', .int .i64 b', .int .i64 c'])).run Tryd.prog w = .ok (.bool (a == a' && (b == b' && c == c'))) w := by
  simp [go_sem]
  iterate 3
    split
    rotate_left
    · simp_all
  simp_all
set_option maxHeartbeats 1000000 in
theorem Told_any {w : World} {ba pm fp tb : Nat} {o pages : Int} {bv sv : Nat} {gvn tk : Int} {F : Int → Option Bool} (h : BaAt w ba pm fp tb o pages bv sv gvn tk F) :
    Calls Tryd.prog 39 #[.pointer (some ⟨ba, 0, none⟩)] w fun r w' => r = .returned (.agg #[.int .i64 gvn, .int .i64 tk, .int .i64 sv]) ∧ Grows w w' := by
  have hb : ∀ w, (binOp .eql 98 (.map (some bv)) (.map none)).run Tryd.prog w = .ok (.bool false) w := fun w => by kernel_rfl
  have hln := fun w' ty (hg : Grows w w') => (h.wm.grows hg).len Tryd.underlying98 ty
  have HB := Lib.hid h
  have HLN := Lib.hid hln
  have heq := fun w => eq_told gvn tk sv 0 0 0 w
  obtain ⟨rb, hrb⟩ : ∃ rb, rb = (gvn == 0 && (tk == 0 && (sv : Int) == 0)) := ⟨_, rfl⟩
  rw [← hrb] at heq
  have HRB := Lib.hid hrb
  clear hrb h hln
  obtain ⟨W1, hW1⟩ : ∃ W1, W1 = w.alloc (Obj.cells #[.int .i64 0, .int .i64 0, .int .i64 0] 96) := ⟨_, rfl⟩
  cases rb
  rotate_left
  · have hz := HRB.out
    simp at hz
    obtain ⟨rfl, rfl, rfl⟩ := hz
    go_enter Tryd.func39, Tryd.ntmps39
    go_upto_region 1 with fail
    have hg1 : Grows w W1 := by rw [hW1]; exact (Grows.refl _).alloc _
    have hr2 : Row W1 w.heap.size #[.int .i64 0, .int .i64 0, .int .i64 0] 96 := by rw [hW1]; exact Row.new _ _ _
    rw [← hW1]
    clear hW1
    have hbr := HB.out.row.grows hg1
    have lt := hbr.lt
    have c5 : W1.cell? ⟨ba, 5, none⟩ = some (.map (some bv)) := hbr.cell 5
    have c6 : W1.cell? ⟨ba, 6, none⟩ = some (.int .i64 0) := hbr.cell 6
    have c7 : W1.cell? ⟨ba, 7, none⟩ = some (.int .i64 0) := hbr.cell 7
    have c8 : W1.cell? ⟨ba, 8, none⟩ = some (.int .i64 0) := hbr.cell 8
    go_upto_region 4 with fail
    obtain ⟨W2, hW2⟩ : ∃ W2, W2 = W1.alloc (Obj.cells #[.int .i64 0, .int .i64 0, .int .i64 0] 96) := ⟨_, rfl⟩
    obtain ⟨b3, hb3⟩ : ∃ b, b = W1.heap.size := ⟨_, rfl⟩
    obtain ⟨b2, hb2⟩ : ∃ b, b = w.heap.size := ⟨_, rfl⟩
    have hg2 : Grows W1 W2 := by rw [hW2]; exact (Grows.refl _).alloc _
    have hr3 : Row W2 b3 #[.int .i64 0, .int .i64 0, .int .i64 0] 96 := by rw [hW2]; exact Row.new_at _ _ _ hb3
    have hr2' : Row W2 b2 #[.int .i64 0, .int .i64 0, .int .i64 0] 96 := by rw [hb2]; exact hr2.grows hg2
    have hne : b2 ≠ b3 := by have := hr2.lt; omega
    have hle : w.heap.size ≤ b3 := by have := hg1.size; omega
    have hle2 : w.heap.size ≤ b2 := by omega
    rw [← hW2, ← hb3, ← hb2]
    have hln := HLN.out W2 3 (hg1.trans hg2)
    have c5' : W2.cell? ⟨ba, 5, none⟩ = some (.map (some bv)) := (hbr.grows hg2).cell 5
    have lt' := (hbr.grows hg2).lt
    have l3 := hr3.lt
    have f3 := hr3.frozen 2
    have y2 : W2.cell? ⟨b3, 2, none⟩ = some (.int .i64 0) := hr3.cell 2
    clear hW2 hb3 hb2 hr2 hbr lt c5 c6 c7 c8
    go_upto_region 5 with fail
    obtain ⟨W3, hW3⟩ : ∃ W3, W3 = W2.setCell ⟨b3, 2, none⟩ (.int .i64 0) := ⟨_, rfl⟩
    rw [← hW3]
    have HR3 := Lib.hid (show Row W3 b3 #[.int .i64 0, .int .i64 0, .int .i64 0] 96 by rw [hW3]; exact row_setCell hr3 (i := 2) (by simp) (.int .i64 0))
    have HR2 := Lib.hid (show Row W3 b2 #[.int .i64 0, .int .i64 0, .int .i64 0] 96 by rw [hW3]; exact row_setOther hr2' (fun e => hne e.symm) _)
    have HG3 := Lib.hid (show Grows w W3 by rw [hW3]; exact (hg1.trans hg2).setCell hle _)
    clear hW3 hr3 hr2' hg1 hg2 hln c5' lt' l3 f3 y2
    have l3 := HR3.out.lt
    have x0 : W3.cell? ⟨b3, 0, none⟩ = some (.int .i64 0) := HR3.out.cell 0
    have x1 : W3.cell? ⟨b3, 1, none⟩ = some (.int .i64 0) := HR3.out.cell 1
    have x2 : W3.cell? ⟨b3, 2, none⟩ = some (.int .i64 0) := HR3.out.cell 2
    have l2 := HR2.out.lt
    have g0 := HR2.out.frozen 0
    have g1 := HR2.out.frozen 1
    have g2 := HR2.out.frozen 2
    have z0 : W3.cell? ⟨b2, 0, none⟩ = some (.int .i64 0) := HR2.out.cell 0
    have z1 : W3.cell? ⟨b2, 1, none⟩ = some (.int .i64 0) := HR2.out.cell 1
    have z2 : W3.cell? ⟨b2, 2, none⟩ = some (.int .i64 0) := HR2.out.cell 2
    go_wp2_with fail
    have hF := fun (x y z : Int) => (row_setCell (row_setCell (row_setCell HR2.out (i := 0) (by decide) (.int .i64 x)) (i := 1) (by simp) (.int .i64 y)) (i := 2) (by simp) (.int .i64 z)).cell
    simp at hF
    have hgr : ∀ x y z : Int, Grows w (((W3.setCell ⟨b2, 0, none⟩ (.int .i64 x)).setCell ⟨b2, 1, none⟩ (.int .i64 y)).setCell ⟨b2, 2, none⟩ (.int .i64 z)) := fun x y z => ((HG3.out.setCell hle2 _).setCell hle2 _).setCell hle2 _
    exact bodyPost_ret (v := .agg #[.int .i64 0, .int .i64 0, .int .i64 0]) (by simp [results, Tryd.results39, go_sem, hF]) rfl ⟨rfl, hgr _ _ _⟩
  · go_enter Tryd.func39, Tryd.ntmps39
    go_upto_region 1 with fail
    have hg1 : Grows w W1 := by rw [hW1]; exact (Grows.refl _).alloc _
    have hr2 : Row W1 w.heap.size #[.int .i64 0, .int .i64 0, .int .i64 0] 96 := by rw [hW1]; exact Row.new _ _ _
    rw [← hW1]
    clear hW1
    have hbr := HB.out.row.grows hg1
    have lt := hbr.lt
    have c5 : W1.cell? ⟨ba, 5, none⟩ = some (.map (some bv)) := hbr.cell 5
    have c6 : W1.cell? ⟨ba, 6, none⟩ = some (.int .i64 gvn) := hbr.cell 6
    have c7 : W1.cell? ⟨ba, 7, none⟩ = some (.int .i64 tk) := hbr.cell 7
    have c8 : W1.cell? ⟨ba, 8, none⟩ = some (.int .i64 0) := hbr.cell 8
    go_upto_region 4 with fail
    obtain ⟨W2, hW2⟩ : ∃ W2, W2 = W1.alloc (Obj.cells #[.int .i64 gvn, .int .i64 tk, .int .i64 0] 96) := ⟨_, rfl⟩
    obtain ⟨b3, hb3⟩ : ∃ b, b = W1.heap.size := ⟨_, rfl⟩
    obtain ⟨b2, hb2⟩ : ∃ b, b = w.heap.size := ⟨_, rfl⟩
    have hg2 : Grows W1 W2 := by rw [hW2]; exact (Grows.refl _).alloc _
    have hr3 : Row W2 b3 #[.int .i64 gvn, .int .i64 tk, .int .i64 0] 96 := by rw [hW2]; exact Row.new_at _ _ _ hb3
    have hr2' : Row W2 b2 #[.int .i64 0, .int .i64 0, .int .i64 0] 96 := by rw [hb2]; exact hr2.grows hg2
    have hne : b2 ≠ b3 := by have := hr2.lt; omega
    have hle : w.heap.size ≤ b3 := by have := hg1.size; omega
    have hle2 : w.heap.size ≤ b2 := by omega
    rw [← hW2, ← hb3, ← hb2]
    have hln := HLN.out W2 3 (hg1.trans hg2)
    have c5' : W2.cell? ⟨ba, 5, none⟩ = some (.map (some bv)) := (hbr.grows hg2).cell 5
    have lt' := (hbr.grows hg2).lt
    have l3 := hr3.lt
    have f3 := hr3.frozen 2
    have y2 : W2.cell? ⟨b3, 2, none⟩ = some (.int .i64 0) := hr3.cell 2
    clear hW2 hb3 hb2 hr2 hbr lt c5 c6 c7 c8
    go_upto_region 5 with fail
    obtain ⟨W3, hW3⟩ : ∃ W3, W3 = W2.setCell ⟨b3, 2, none⟩ (.int .i64 sv) := ⟨_, rfl⟩
    rw [← hW3]
    have HR3 := Lib.hid (show Row W3 b3 #[.int .i64 gvn, .int .i64 tk, .int .i64 sv] 96 by rw [hW3]; exact row_setCell hr3 (i := 2) (by simp) (.int .i64 sv))
    have HR2 := Lib.hid (show Row W3 b2 #[.int .i64 0, .int .i64 0, .int .i64 0] 96 by rw [hW3]; exact row_setOther hr2' (fun e => hne e.symm) _)
    have HG3 := Lib.hid (show Grows w W3 by rw [hW3]; exact (hg1.trans hg2).setCell hle _)
    clear hW3 hr3 hr2' hg1 hg2 hln c5' lt' l3 f3 y2
    have l3 := HR3.out.lt
    have x0 : W3.cell? ⟨b3, 0, none⟩ = some (.int .i64 gvn) := HR3.out.cell 0
    have x1 : W3.cell? ⟨b3, 1, none⟩ = some (.int .i64 tk) := HR3.out.cell 1
    have x2 : W3.cell? ⟨b3, 2, none⟩ = some (.int .i64 sv) := HR3.out.cell 2
    have l2 := HR2.out.lt
    have g0 := HR2.out.frozen 0
    have g1 := HR2.out.frozen 1
    have g2 := HR2.out.frozen 2
    have z0 : W3.cell? ⟨b2, 0, none⟩ = some (.int .i64 0) := HR2.out.cell 0
    have z1 : W3.cell? ⟨b2, 1, none⟩ = some (.int .i64 0) := HR2.out.cell 1
    have z2 : W3.cell? ⟨b2, 2, none⟩ = some (.int .i64 0) := HR2.out.cell 2
    go_wp2_with fail
    have hF := fun (x y z : Int) => (row_setCell (row_setCell (row_setCell HR2.out (i := 0) (by decide) (.int .i64 x)) (i := 1) (by simp) (.int .i64 y)) (i := 2) (by simp) (.int .i64 z)).cell
    simp at hF
    have hgr : ∀ x y z : Int, Grows w (((W3.setCell ⟨b2, 0, none⟩ (.int .i64 x)).setCell ⟨b2, 1, none⟩ (.int .i64 y)).setCell ⟨b2, 2, none⟩ (.int .i64 z)) := fun x y z => ((HG3.out.setCell hle2 _).setCell hle2 _).setCell hle2 _
    exact bodyPost_ret (v := .agg #[.int .i64 gvn, .int .i64 tk, .int .i64 sv]) (by simp [results, Tryd.results39, go_sem, hF]) rfl ⟨rfl, hgr _ _ _⟩
end Go.Proofs.YtlchlklbjocliaaDoor

