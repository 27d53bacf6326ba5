/- The package balloon: Told. -/
import Derived.Test.YtlchlklbjocliaaDoorBaB
namespace Go.Proofs.YtlchlklbjocliaaDoor
open Go Go.RowKit
set_option linter.unusedSimpArgs false
set_option linter.unusedVariables false
set_option maxRecDepth 100000
theorem eq_told (a b c a' b' c' : Int) (w : World) :
   (binOp .eql 96 (.agg #[.int .i64 a, .int .i64 b, .int .i64 c]) (.agg #[.int .i64 a', .int .i64 b', .int .i64 c'])).run Tryd.prog w = .ok (.bool (a == a' && (b == b' && c == c'))) w := by
  simp [go_sem]
  iterate 3
    split
    rotate_left
    · simp_all
  simp_all
set_option maxHeartbeats 1000000 in
theorem Told_any {w : World} {ba pm fp tb : Nat} {o pages : Int} {bv sv : Nat} {gvn tk : Int} {F : Int → Option Bool} (h : BaAt w ba pm fp tb o pages bv sv gvn tk F) :
    Calls Tryd.prog 39 #[.pointer (some ⟨ba, 0, none⟩)] w fun r w' => r = .returned (.agg #[.int .i64 gvn, .int .i64 tk, .int .i64 sv]) ∧ Grows w w' := by
  have hb : ∀ w, (binOp .eql 98 (.map (some bv)) (.map none)).run Tryd.prog w = .ok (.bool false) w := fun w => by kernel_rfl
  have hln := fun w' ty (hg : Grows w w') => (h.wm.grows hg).len Tryd.underlying98 ty
  have HB := Lib.hid h
  have HLN := Lib.hid hln
  have heq := fun w => eq_told gvn tk sv 0 0 0 w
  obtain ⟨rb, hrb⟩ : ∃ rb, rb = (gvn == 0 && (tk == 0 && (sv : Int) == 0)) := ⟨_, rfl⟩
  rw [← hrb] at heq
  have HRB := Lib.hid hrb
  clear hrb h hln
  obtain ⟨W1, hW1⟩ : ∃ W1, W1 = w.alloc (Obj.cells #[.int .i64 0, .int .i64 0, .int .i64 0] 96) := ⟨_, rfl⟩
  cases rb
  rotate_left
  · have hz := HRB.out
    simp at hz
    obtain ⟨rfl, rfl, rfl⟩ := hz
    go_enter Tryd.func39, Tryd.ntmps39
    go_upto_region 1 with fail
    have hg1 : Grows w W1 := by rw [hW1]; exact (Grows.refl _).alloc _
    have hr2 : Row W1 w.heap.size #[.int .i64 0, .int .i64 0, .int .i64 0] 96 := by rw [hW1]; exact Row.new _ _ _
    rw [← hW1]
    clear hW1
    have hbr := HB.out.row.grows hg1
    have lt := hbr.lt
    have c5 : W1.cell? ⟨ba, 5, none⟩ = some (.map (some bv)) := hbr.cell 5
    have c6 : W1.cell? ⟨ba, 6, none⟩ = some (.int .i64 0) := hbr.cell 6
    have c7 : W1.cell? ⟨ba, 7, none⟩ = some (.int .i64 0) := hbr.cell 7
    have c8 : W1.cell? ⟨ba, 8, none⟩ = some (.int .i64 0) := hbr.cell 8
    go_upto_region 4 with fail
    obtain ⟨W2, hW2⟩ : ∃ W2, W2 = W1.alloc (Obj.cells #[.int .i64 0, .int .i64 0, .int .i64 0] 96) := ⟨_, rfl⟩
    obtain ⟨b3, hb3⟩ : ∃ b, b = W1.heap.size := ⟨_, rfl⟩
    obtain ⟨b2, hb2⟩ : ∃ b, b = w.heap.size := ⟨_, rfl⟩
    have hg2 : Grows W1 W2 := by rw [hW2]; exact (Grows.refl _).alloc _
    have hr3 : Row W2 b3 #[.int .i64 0, .int .i64 0, .int .i64 0] 96 := by rw [hW2]; exact Row.new_at _ _ _ hb3
    have hr2' : Row W2 b2 #[.int .i64 0, .int .i64 0, .int .i64 0] 96 := by rw [hb2]; exact hr2.grows hg2
    have hne : b2 ≠ b3 := by have := hr2.lt; omega
    have hle : w.heap.size ≤ b3 := by have := hg1.size; omega
    have hle2 : w.heap.size ≤ b2 := by omega
    rw [← hW2, ← hb3, ← hb2]
    have hln := HLN.out W2 3 (hg1.trans hg2)
    have c5' : W2.cell? ⟨ba, 5, none⟩ = some (.map (some bv)) := (hbr.grows hg2).cell 5
    have lt' := (hbr.grows hg2).lt
    have l3 := hr3.lt
    have f3 := hr3.frozen 2
    have y2 : W2.cell? ⟨b3, 2, none⟩ = some (.int .i64 0) := hr3.cell 2
    clear hW2 hb3 hb2 hr2 hbr lt c5 c6 c7 c8
    go_upto_region 5 with fail
    obtain ⟨W3, hW3⟩ : ∃ W3, W3 = W2.setCell ⟨b3, 2, none⟩ (.int .i64 0) := ⟨_, rfl⟩
    rw [← hW3]
    have HR3 := Lib.hid (show Row W3 b3 #[.int .i64 0, .int .i64 0, .int .i64 0] 96 by rw [hW3]; exact row_setCell hr3 (i := 2) (by simp) (.int .i64 0))
    have HR2 := Lib.hid (show Row W3 b2 #[.int .i64 0, .int .i64 0, .int .i64 0] 96 by rw [hW3]; exact row_setOther hr2' (fun e => hne e.symm) _)
    have HG3 := Lib.hid (show Grows w W3 by rw [hW3]; exact (hg1.trans hg2).setCell hle _)
    clear hW3 hr3 hr2' hg1 hg2 hln c5' lt' l3 f3 y2
    have l3 := HR3.out.lt
    have x0 : W3.cell? ⟨b3, 0, none⟩ = some (.int .i64 0) := HR3.out.cell 0
    have x1 : W3.cell? ⟨b3, 1, none⟩ = some (.int .i64 0) := HR3.out.cell 1
    have x2 : W3.cell? ⟨b3, 2, none⟩ = some (.int .i64 0) := HR3.out.cell 2
    have l2 := HR2.out.lt
    have g0 := HR2.out.frozen 0
    have g1 := HR2.out.frozen 1
    have g2 := HR2.out.frozen 2
    have z0 : W3.cell? ⟨b2, 0, none⟩ = some (.int .i64 0) := HR2.out.cell 0
    have z1 : W3.cell? ⟨b2, 1, none⟩ = some (.int .i64 0) := HR2.out.cell 1
    have z2 : W3.cell? ⟨b2, 2, none⟩ = some (.int .i64 0) := HR2.out.cell 2
    go_wp2_with fail
    have hF := fun (x y z : Int) => (row_setCell (row_setCell (row_setCell HR2.out (i := 0) (by decide) (.int .i64 x)) (i := 1) (by simp) (.int .i64 y)) (i := 2) (by simp) (.int .i64 z)).cell
    simp at hF
    have hgr : ∀ x y z : Int, Grows w (((W3.setCell ⟨b2, 0, none⟩ (.int .i64 x)).setCell ⟨b2, 1, none⟩ (.int .i64 y)).setCell ⟨b2, 2, none⟩ (.int .i64 z)) := fun x y z => ((HG3.out.setCell hle2 _).setCell hle2 _).setCell hle2 _
    exact bodyPost_ret (v := .agg #[.int .i64 0, .int .i64 0, .int .i64 0]) (by simp [results, Tryd.results39, go_sem, hF]) rfl ⟨rfl, hgr _ _ _⟩
  · go_enter Tryd.func39, Tryd.ntmps39
    go_upto_region 1 with fail
    have hg1 : Grows w W1 := by rw [hW1]; exact (Grows.refl _).alloc _
    have hr2 : Row W1 w.heap.size #[.int .i64 0, .int .i64 0, .int .i64 0] 96 := by rw [hW1]; exact Row.new _ _ _
    rw [← hW1]
    clear hW1
    have hbr := HB.out.row.grows hg1
    have lt := hbr.lt
    have c5 : W1.cell? ⟨ba, 5, none⟩ = some (.map (some bv)) := hbr.cell 5
    have c6 : W1.cell? ⟨ba, 6, none⟩ = some (.int .i64 gvn) := hbr.cell 6
    have c7 : W1.cell? ⟨ba, 7, none⟩ = some (.int .i64 tk) := hbr.cell 7
    have c8 : W1.cell? ⟨ba, 8, none⟩ = some (.int .i64 0) := hbr.cell 8
    go_upto_region 4 with fail
    obtain ⟨W2, hW2⟩ : ∃ W2, W2 = W1.alloc (Obj.cells #[.int .i64 gvn, .int .i64 tk, .int .i64 0] 96) := ⟨_, rfl⟩
    obtain ⟨b3, hb3⟩ : ∃ b, b = W1.heap.size := ⟨_, rfl⟩
    obtain ⟨b2, hb2⟩ : ∃ b, b = w.heap.size := ⟨_, rfl⟩
    have hg2 : Grows W1 W2 := by rw [hW2]; exact (Grows.refl _).alloc _
    have hr3 : Row W2 b3 #[.int .i64 gvn, .int .i64 tk, .int .i64 0] 96 := by rw [hW2]; exact Row.new_at _ _ _ hb3
    have hr2' : Row W2 b2 #[.int .i64 0, .int .i64 0, .int .i64 0] 96 := by rw [hb2]; exact hr2.grows hg2
    have hne : b2 ≠ b3 := by have := hr2.lt; omega
    have hle : w.heap.size ≤ b3 := by have := hg1.size; omega
    have hle2 : w.heap.size ≤ b2 := by omega
    rw [← hW2, ← hb3, ← hb2]
    have hln := HLN.out W2 3 (hg1.trans hg2)
    have c5' : W2.cell? ⟨ba, 5, none⟩ = some (.map (some bv)) := (hbr.grows hg2).cell 5
    have lt' := (hbr.grows hg2).lt
    have l3 := hr3.lt
    have f3 := hr3.frozen 2
    have y2 : W2.cell? ⟨b3, 2, none⟩ = some (.int .i64 0) := hr3.cell 2
    clear hW2 hb3 hb2 hr2 hbr lt c5 c6 c7 c8
    go_upto_region 5 with fail
    obtain ⟨W3, hW3⟩ : ∃ W3, W3 = W2.setCell ⟨b3, 2, none⟩ (.int .i64 sv) := ⟨_, rfl⟩
    rw [← hW3]
    have HR3 := Lib.hid (show Row W3 b3 #[.int .i64 gvn, .int .i64 tk, .int .i64 sv] 96 by rw [hW3]; exact row_setCell hr3 (i := 2) (by simp) (.int .i64 sv))
    have HR2 := Lib.hid (show Row W3 b2 #[.int .i64 0, .int .i64 0, .int .i64 0] 96 by rw [hW3]; exact row_setOther hr2' (fun e => hne e.symm) _)
    have HG3 := Lib.hid (show Grows w W3 by rw [hW3]; exact (hg1.trans hg2).setCell hle _)
    clear hW3 hr3 hr2' hg1 hg2 hln c5' lt' l3 f3 y2
    have l3 := HR3.out.lt
    have x0 : W3.cell? ⟨b3, 0, none⟩ = some (.int .i64 gvn) := HR3.out.cell 0
    have x1 : W3.cell? ⟨b3, 1, none⟩ = some (.int .i64 tk) := HR3.out.cell 1
    have x2 : W3.cell? ⟨b3, 2, none⟩ = some (.int .i64 sv) := HR3.out.cell 2
    have l2 := HR2.out.lt
    have g0 := HR2.out.frozen 0
    have g1 := HR2.out.frozen 1
    have g2 := HR2.out.frozen 2
    have z0 : W3.cell? ⟨b2, 0, none⟩ = some (.int .i64 0) := HR2.out.cell 0
    have z1 : W3.cell? ⟨b2, 1, none⟩ = some (.int .i64 0) := HR2.out.cell 1
    have z2 : W3.cell? ⟨b2, 2, none⟩ = some (.int .i64 0) := HR2.out.cell 2
    go_wp2_with fail
    have hF := fun (x y z : Int) => (row_setCell (row_setCell (row_setCell HR2.out (i := 0) (by decide) (.int .i64 x)) (i := 1) (by simp) (.int .i64 y)) (i := 2) (by simp) (.int .i64 z)).cell
    simp at hF
    have hgr : ∀ x y z : Int, Grows w (((W3.setCell ⟨b2, 0, none⟩ (.int .i64 x)).setCell ⟨b2, 1, none⟩ (.int .i64 y)).setCell ⟨b2, 2, none⟩ (.int .i64 z)) := fun x y z => ((HG3.out.setCell hle2 _).setCell hle2 _).setCell hle2 _
    exact bodyPost_ret (v := .agg #[.int .i64 gvn, .int .i64 tk, .int .i64 sv]) (by simp [results, Tryd.results39, go_sem, hF]) rfl ⟨rfl, hgr _ _ _⟩
end Go.Proofs.YtlchlklbjocliaaDoor
