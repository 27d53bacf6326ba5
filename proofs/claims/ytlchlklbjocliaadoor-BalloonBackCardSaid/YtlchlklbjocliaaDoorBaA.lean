/- The package balloon: wrong, Take, of a balloon that stands. -/
import Derived.Test.YtlchlklbjocliaaDoorStF
import Derived.Test.YtlchlklbjocliaaDoorMapB
namespace Go.Proofs.YtlchlklbjocliaaDoor
open Go Go.RowKit
set_option linter.unusedSimpArgs false
set_option linter.unusedVariables false
set_option maxRecDepth 100000
def baL (pm fp tb : Nat) (o pages : Int) (bv : Nat) (gvn tk : Int) : Array Value := #[.pointer (some ⟨pm, 0, none⟩), .pointer (some ⟨fp, 0, none⟩), .pointer (some ⟨tb, 0, none⟩), .int .i64 o, .int .i64 pages, .map (some bv), .int .i64 gvn, .int .i64 tk, .int .i64 0]
abbrev WMap := BMap Tryd.prog 3 4
/-- A balloon that stands: its row and the frames that wait. -/
structure BaAt (w : World) (ba pm fp tb : Nat) (o pages : Int) (bv sv : Nat) (gvn tk : Int) (F : Int → Option Bool) : Prop where
  row : Row w ba (baL pm fp tb o pages bv gvn tk) 100
  wm : WMap w bv sv F
  ne : ba ≠ bv
theorem BaAt.chg {S : List Nat} {w w' : World} {ba pm fp tb : Nat} {o pages : Int} {bv sv : Nat} {gvn tk : Int} {F : Int → Option Bool} (h : BaAt w ba pm fp tb o pages bv sv gvn tk F) (hc : Chg S w w') (h1 : ba ∉ S) (h2 : bv ∉ S) : BaAt w' ba pm fp tb o pages bv sv gvn tk F :=
  ⟨h.row.chg hc h1, h.wm.of_block (hc.get h.wm.lt h2), h.ne⟩
theorem baL_tk {w : World} {ba pm fp tb : Nat} {o pages : Int} {bv : Nat} {gvn tk : Int} (h : Row w ba (baL pm fp tb o pages bv gvn tk) 100) (v : Int) : Row (w.setCell ⟨ba, 7, none⟩ (.int .i64 v)) ba (baL pm fp tb o pages bv gvn v) 100 :=
  row_setCell h (i := 7) (by show 7 < 9; omega) (.int .i64 v)
theorem baL_gv {w : World} {ba pm fp tb : Nat} {o pages : Int} {bv : Nat} {gvn tk : Int} (h : Row w ba (baL pm fp tb o pages bv gvn tk) 100) (v : Int) : Row (w.setCell ⟨ba, 6, none⟩ (.int .i64 v)) ba (baL pm fp tb o pages bv v tk) 100 :=
  row_setCell h (i := 6) (by show 6 < 9; omega) (.int .i64 v)
theorem bwrong_ok {w : World} {ba pm fp tb : Nat} {o pages : Int} {bv sv : Nat} {gvn tk : Int} {F : Int → Option Bool} (h : BaAt w ba pm fp tb o pages bv sv gvn tk F) {page : Int} (h0 : 0 ≤ page) (h1 : page < pages) :
    Calls Tryd.prog 75 #[.pointer (some ⟨ba, 0, none⟩), .int .i64 page] w fun r w' => r = .returned (.int .i64 0) ∧ w' = w := by
  have hb : ∀ w, (binOp .eql 98 (.map (some bv)) (.map none)).run Tryd.prog w = .ok (.bool false) w := fun w => by kernel_rfl
  have lt := h.row.lt
  have c5 : w.cell? ⟨ba, 5, none⟩ = some (.map (some bv)) := h.row.cell 5
  have c4 : w.cell? ⟨ba, 4, none⟩ = some (.int .i64 pages) := h.row.cell 4
  have d1 : decide (page < 0) = false := decide_eq_false (by omega)
  have d2 : decide (pages ≤ page) = false := decide_eq_false (by omega)
  clear h
  go_enter Tryd.func75, Tryd.ntmps75
  go_wp2_with fail
  go_ret
  exact ⟨rfl, rfl⟩
theorem bwrong_arg {w : World} {ba pm fp tb : Nat} {o pages : Int} {bv sv : Nat} {gvn tk : Int} {F : Int → Option Bool} (h : BaAt w ba pm fp tb o pages bv sv gvn tk F) {page : Int} (h0 : page < 0 ∨ pages ≤ page) :
    Calls Tryd.prog 75 #[.pointer (some ⟨ba, 0, none⟩), .int .i64 page] w fun r w' => r = .returned (.int .i64 2) ∧ w' = w := by
  have hb : ∀ w, (binOp .eql 98 (.map (some bv)) (.map none)).run Tryd.prog w = .ok (.bool false) w := fun w => by kernel_rfl
  have lt := h.row.lt
  have c5 : w.cell? ⟨ba, 5, none⟩ = some (.map (some bv)) := h.row.cell 5
  have c4 : w.cell? ⟨ba, 4, none⟩ = some (.int .i64 pages) := h.row.cell 4
  clear h
  by_cases hp : page < 0
  · have d1 : decide (page < 0) = true := decide_eq_true hp
    clear h0 hp
    go_enter Tryd.func75, Tryd.ntmps75
    go_wp2_with fail
    go_ret
    exact ⟨rfl, rfl⟩
  · have d1 : decide (page < 0) = false := decide_eq_false hp
    have d2 : decide (pages ≤ page) = true := decide_eq_true (by omega)
    clear h0 hp
    go_enter Tryd.func75, Tryd.ntmps75
    go_wp2_with fail
    go_ret
    exact ⟨rfl, rfl⟩
theorem Take_none {w : World} {ba pm fp tb : Nat} {o pages : Int} {bv sv : Nat} {gvn tk : Int} {F : Int → Option Bool} (h : BaAt w ba pm fp tb o pages bv sv gvn tk F) {page : Nat} (h1 : (page : Int) < pages)
    (hun : Calls Tryd.prog 12 #[.pointer (some ⟨tb, 0, none⟩), .int .i64 page] w fun e w' => e = .returned (.tuple #[.int .i64 0, .int .i64 14]) ∧ Grows w w') :
    Calls Tryd.prog 34 #[.pointer (some ⟨ba, 0, none⟩), .int .i64 page] w fun r w' => r = .returned (.tuple #[.int .i64 0, .int .i64 14]) ∧ Grows w w' := by
  have hwr := bwrong_ok h (page := page) (by omega) h1
  have lt := h.row.lt
  have c2 : w.cell? ⟨ba, 2, none⟩ = some (.pointer (some ⟨tb, 0, none⟩)) := h.row.cell 2
  clear h h1
  go_enter Tryd.func34, Tryd.ntmps34
  go_wp2_with fail
  refine (hwr).mono ?_
  rintro _ _ ⟨rfl, hw⟩
  rw [hw]
  clear hw
  go_wp2_with fail
  refine hun.mono ?_
  rintro _ w1 ⟨rfl, hg1⟩
  clear hun c2 lt hwr
  go_wp2_with fail
  exact bodyPost_ret (v := .tuple #[.int .i64 0, .int .i64 14]) (by simp [results, Tryd.results34, go_sem]) rfl ⟨rfl, hg1⟩
/-- Take: what Unmap did, and then only the balloon's own blocks. -/
theorem Take_of {w : World} {ba pm fp tb : Nat} {o pages : Int} {bv sv : Nat} {gvn tk : Int} {F : Int → Option Bool} {S : List Nat} {R : World → Prop} (h : BaAt w ba pm fp tb o pages bv sv gvn tk F) {page f : Nat} (h1 : (page : Int) < pages) (hf : f < 65536) (hsv : sv < 1000000) (htk : 0 ≤ tk ∧ tk < 1000000) (hS1 : ba ∉ S) (hS2 : bv ∉ S)
    (hun : Calls Tryd.prog 12 #[.pointer (some ⟨tb, 0, none⟩), .int .i64 page] w fun e w' => e = .returned (.tuple #[.int .i64 f, .int .i64 0]) ∧ R w' ∧ Chg S w w') :
    Calls Tryd.prog 34 #[.pointer (some ⟨ba, 0, none⟩), .int .i64 page] w fun r w' => r = .returned (.tuple #[.int .i64 f, .int .i64 0]) ∧ ∃ w1, R w1 ∧ Chg S w w1 ∧ Chg [ba, bv] w1 w' ∧ BaAt w' ba pm fp tb o pages bv (if (F f).isSome then sv else sv + 1) gvn (tk + 1) (bmUpd F f true) := by
  obtain ⟨sv', hsv'⟩ : ∃ s', s' = (if (F f).isSome then sv else sv + 1) := ⟨_, rfl⟩
  rw [← hsv']
  have HSV := Lib.hid hsv'
  clear hsv'
  have hwr := bwrong_ok h (page := page) (by omega) h1
  have lt := h.row.lt
  have c2 : w.cell? ⟨ba, 2, none⟩ = some (.pointer (some ⟨tb, 0, none⟩)) := h.row.cell 2
  have HH := Lib.hid h
  have wt : IntKind.i64.wrap (tk + 1) = tk + 1 := by rw [IntKind.wrap_i64]; omega
  have HF := Lib.hid (⟨hf, hsv, hS1, hS2⟩ : f < 65536 ∧ sv < 1000000 ∧ ba ∉ S ∧ bv ∉ S)
  clear h h1 hf hsv htk hS1 hS2
  go_enter Tryd.func34, Tryd.ntmps34
  go_wp2_with fail
  refine (hwr).mono ?_
  rintro _ _ ⟨rfl, hw⟩
  rw [hw]
  clear hw
  go_wp2_with fail
  refine hun.mono ?_
  rintro _ w1 ⟨rfl, hR1, hC1⟩
  have HH1 := Lib.hid (HH.out.chg hC1 HF.out.2.2.1 HF.out.2.2.2)
  have HR1 := Lib.hid hR1
  have HC1 := Lib.hid hC1
  obtain ⟨w2, hrun, hm2, hg2⟩ := HH1.out.wm.update Tryd.underlying3 Tryd.underlying4 Tryd.underlying98 (by have := HF.out; unfold maxLen; omega) (K := (f : Int)) true (wf_of (by omega) (by have := HF.out; omega))
  rw [← HSV.out] at hm2
  have hc2 : Chg [bv] w1 w2 := (Chg.refl _ _).grownBy hg2 (fun b hb => by injection hb with hb; subst hb; exact Or.inl (by simp))
  have HR2 := Lib.hid (HH1.out.row.chg hc2 (by simp; exact HH1.out.ne))
  have HM2 := Lib.hid hm2
  have HC2 := Lib.hid hc2
  have lt1 := HH1.out.row.lt
  have c5 : w1.cell? ⟨ba, 5, none⟩ = some (.map (some bv)) := HH1.out.row.cell 5
  have lt2 := HR2.out.lt
  have d7 : w2.cell? ⟨ba, 7, none⟩ = some (.int .i64 tk) := HR2.out.cell 7
  have f7 := HR2.out.frozen 7
  clear hun c2 lt hwr HH hR1 hC1 hm2 hg2 hc2
  go_wp2_with fail
  exact bodyPost_ret (v := .tuple #[.int .i64 f, .int .i64 0]) (by simp [results, Tryd.results34, go_sem]) rfl ⟨rfl, w1, HR1.out, HC1.out, (HC2.out.weaken (by simp)).setCell (Or.inl (by simp)) _ _, ⟨baL_tk HR2.out (tk + 1), HM2.out.of_block (((Chg.refl [ba] w2).setCell (b := ba) (Or.inl (by simp)) 7 (.int .i64 (tk + 1))).get HM2.out.lt (by simp; exact fun e => HH1.out.ne e.symm)), HH1.out.ne⟩⟩
end Go.Proofs.YtlchlklbjocliaaDoor
