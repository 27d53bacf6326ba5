/- What Fault, Call, Skip and Answer of the package emulate, and of its reference, compute. -/
import Derived.Test.YtjbgamifkgeodaaProg
import Derived.Test.YtjbgamifkgeodaaBase
import Derived.Test.YtjbgamifkgeodaaNum
import Derived.Test.YtjbgamifkgeodaaCell
import Derived.OpenShut
import Derived.Lib.Hide
import Derived.StillTailTactics
namespace Go.Proofs.Ytjbgamifkgeodaa
open Go Go.RowKit
set_option linter.unusedSimpArgs false
set_option linter.unusedVariables false
def faultC (c : Int) : Int := if c = 20 then 1 else if c = 21 then 5 else if c = 23 then 7 else c
theorem fault_any (c v g : Int) (w : World) :
    Calls Try.prog 9 #[.agg #[.int .i64 c, .int .u64 v, .int .u64 g]] w fun r w' => r = .returned (.agg #[.int .i64 (faultC c), .int .u64 v, .int .u64 0]) ∧ Grows w w' := by
  by_cases h1 : c = 20
  · subst h1
    go_enter Try.func9, Try.ntmps9
    go_wp2_with fail
    exact bodyPost_ret (v := .agg #[.int .i64 1, .int .u64 v, .int .u64 0]) (by simp [results, Try.results9, go_sem]) rfl ⟨by first | rfl | (simp [faultC]; done), (((Grows.refl _).alloc _).alloc _).alloc _⟩
  by_cases h2 : c = 21
  · subst h2
    go_enter Try.func9, Try.ntmps9
    go_wp2_with fail
    exact bodyPost_ret (v := .agg #[.int .i64 5, .int .u64 v, .int .u64 0]) (by simp [results, Try.results9, go_sem]) rfl ⟨by first | rfl | (simp [faultC]; done), (((Grows.refl _).alloc _).alloc _).alloc _⟩
  by_cases h3 : c = 23
  · subst h3
    go_enter Try.func9, Try.ntmps9
    go_wp2_with fail
    exact bodyPost_ret (v := .agg #[.int .i64 7, .int .u64 v, .int .u64 0]) (by simp [results, Try.results9, go_sem]) rfl ⟨by first | rfl | (simp [faultC]; done), (((Grows.refl _).alloc _).alloc _).alloc _⟩
  · have hf : faultC c = c := by simp [faultC, h1, h2, h3]
    rw [hf]
    clear hf
    go_enter Try.func9, Try.ntmps9
    go_wp2_with fail
    exact bodyPost_ret (v := .agg #[.int .i64 c, .int .u64 v, .int .u64 0]) (by simp [results, Try.results9, go_sem]) rfl ⟨by first | rfl | (simp [faultC]; done), (((Grows.refl _).alloc _).alloc _).alloc _⟩
abbrev regsL (x0 x1 x2 x3 x4 x5 x6 x7 x8 x9 x10 x11 x12 x13 x14 x15 pc m : Int) : List Value := [.int .u64 x0, .int .u64 x1, .int .u64 x2, .int .u64 x3, .int .u64 x4, .int .u64 x5, .int .u64 x6, .int .u64 x7, .int .u64 x8, .int .u64 x9, .int .u64 x10, .int .u64 x11, .int .u64 x12, .int .u64 x13, .int .u64 x14, .int .u64 x15, .int .u64 pc, .int .i64 m]
abbrev regs0 : List Value := [.int .u64 0, .int .u64 0, .int .u64 0, .int .u64 0, .int .u64 0, .int .u64 0, .int .u64 0, .int .u64 0, .int .u64 0, .int .u64 0, .int .u64 0, .int .u64 0, .int .u64 0, .int .u64 0, .int .u64 0, .int .u64 0, .int .u64 0, .int .i64 0]
theorem skip_any (x0 x1 x2 x3 x4 x5 x6 x7 x8 x9 x10 x11 x12 x13 x14 x15 pc m : Int) (w : World) :
    Calls Try.prog 11 #[.agg #[.int .u64 x0, .int .u64 x1, .int .u64 x2, .int .u64 x3, .int .u64 x4, .int .u64 x5, .int .u64 x6, .int .u64 x7, .int .u64 x8, .int .u64 x9, .int .u64 x10, .int .u64 x11, .int .u64 x12, .int .u64 x13, .int .u64 x14, .int .u64 x15, .int .u64 pc, .int .i64 m]] w fun r w' => r = .returned (.agg #[.int .u64 x0, .int .u64 x1, .int .u64 x2, .int .u64 x3, .int .u64 x4, .int .u64 x5, .int .u64 x6, .int .u64 x7, .int .u64 x8, .int .u64 x9, .int .u64 x10, .int .u64 x11, .int .u64 x12, .int .u64 x13, .int .u64 x14, .int .u64 x15, .int .u64 (IntKind.u64.wrap (pc + 4)), .int .i64 m]) ∧ Grows w w' := by
  go_enter Try.func11, Try.ntmps11
  iterate 8 (first | go_values | go_skip | go_guarded | go_step | go_upon | go_back)
  obtain ⟨W, hW⟩ : ∃ W, W = (w.alloc (Obj.cells (regsL x0 x1 x2 x3 x4 x5 x6 x7 x8 x9 x10 x11 x12 x13 x14 x15 pc m).toArray 32)).alloc (Obj.cells regs0.toArray 32) := ⟨_, rfl⟩
  rw [← hW]
  have hg : Grows w W := by rw [hW]; exact ((Grows.refl _).alloc _).alloc _
  obtain ⟨b1, hb1⟩ : ∃ b, b = w.heap.size := ⟨_, rfl⟩
  obtain ⟨b2, hb2⟩ : ∃ b, b = w.heap.size + 1 := ⟨_, rfl⟩
  rw [← hb2, ← hb1]
  have hR : Row W b1 (regsL x0 x1 x2 x3 x4 x5 x6 x7 x8 x9 x10 x11 x12 x13 x14 x15 pc m).toArray 32 := by
    rw [hW]; exact (Row.new_at _ _ _ hb1).grows ((Grows.refl _).alloc _)
  have hZ : Row W b2 regs0.toArray 32 := by
    rw [hW]; exact Row.new_at _ _ _ (by rw [hb2]; simp)
  clear hW
  have hn : b1 ≠ b2 := by omega
  have cR : W.cell? ⟨b1, 16, none⟩ = some (.int .u64 pc) := hR.cell 16
  have fR := hR.frozen 16
  have lR := hR.lt
  obtain ⟨W1, hW1⟩ : ∃ W1, W1 = W.setCell ⟨b1, 16, none⟩ (.int .u64 (IntKind.u64.wrap (pc + 4))) := ⟨_, rfl⟩
  have hR1 : Row W1 b1 (regsL x0 x1 x2 x3 x4 x5 x6 x7 x8 x9 x10 x11 x12 x13 x14 x15 (IntKind.u64.wrap (pc + 4)) m).toArray 32 := by
    rw [hW1]; exact row_setCell hR (i := 16) (by simp) _
  have hZ1 : Row W1 b2 regs0.toArray 32 := by
    rw [hW1]; exact row_setOther hZ (p := ⟨b1, 16, none⟩) hn _
  have hg1 : Grows w W1 := by rw [hW1]; exact hg.setCell (by simp; omega) _
  rw [hW1] at hR1 hZ1 hg1
  have hF := row_setRow hZ1 (regsL x0 x1 x2 x3 x4 x5 x6 x7 x8 x9 x10 x11 x12 x13 x14 x15 (IntKind.u64.wrap (pc + 4)) m).toArray
  have hGF := grows_setRow hg1 (b := b2) (by omega) (regsL x0 x1 x2 x3 x4 x5 x6 x7 x8 x9 x10 x11 x12 x13 x14 x15 (IntKind.u64.wrap (pc + 4)) m).toArray
  have HF := Lib.hid (And.intro hF hGF)
  clear hF hGF hg1 hW1 hg hb1 hb2 hR hZ
  have ho1 : (regsL x0 x1 x2 x3 x4 x5 x6 x7 x8 x9 x10 x11 x12 x13 x14 x15 (IntKind.u64.wrap (pc + 4)) m).toArray.all (·.oneCell') = true := by simp [regsL, Value.oneCell']
  go_wp2_with (first | (refine wpList_load_row rfl 32 _ rfl b1 rfl 32 _ (0, 0) _ hR1 Try.underlying32 rfl rfl ?_) | (refine wpList_store_row rfl 32 _ _ rfl b2 (regsL x0 x1 x2 x3 x4 x5 x6 x7 x8 x9 x10 x11 x12 x13 x14 x15 (IntKind.u64.wrap (pc + 4)) m).toArray rfl rfl 32 _ hZ1 rfl rfl ho1 ?_))
  exact bodyPost_ret (results_cell_row rfl _ _ b2 32 _ (0, 0) _ rfl HF.out.1 Try.underlying32 rfl rfl) rfl ⟨rfl, HF.out.2⟩
theorem call_any (x0 x1 x2 x3 x4 x5 x6 x7 x8 x9 x10 x11 x12 x13 x14 x15 pc m : Int) (w : World) :
    Calls Try.prog 10 #[.agg #[.int .u64 x0, .int .u64 x1, .int .u64 x2, .int .u64 x3, .int .u64 x4, .int .u64 x5, .int .u64 x6, .int .u64 x7, .int .u64 x8, .int .u64 x9, .int .u64 x10, .int .u64 x11, .int .u64 x12, .int .u64 x13, .int .u64 x14, .int .u64 x15, .int .u64 pc, .int .i64 m]] w fun r w' => r = .returned (.tuple #[.int .u64 x10, .agg #[.int .u64 x11, .int .u64 x12, .int .u64 x13, .int .u64 x14]]) ∧ Grows w w' := by
  go_enter Try.func10, Try.ntmps10
  go_wp2_with fail
  obtain ⟨W, hW⟩ : ∃ W, W = (w.alloc (Obj.cells (regsL x0 x1 x2 x3 x4 x5 x6 x7 x8 x9 x10 x11 x12 x13 x14 x15 pc m).toArray 32)).alloc (Obj.cells #[.int .u64 0, .int .u64 0, .int .u64 0, .int .u64 0] 27) := ⟨_, rfl⟩
  rw [← hW]
  have hg : Grows w W := by rw [hW]; exact ((Grows.refl _).alloc _).alloc _
  obtain ⟨b1, hb1⟩ : ∃ b, b = w.heap.size := ⟨_, rfl⟩
  obtain ⟨b2, hb2⟩ : ∃ b, b = w.heap.size + 1 := ⟨_, rfl⟩
  rw [← hb2, ← hb1]
  have hR : Row W b1 (regsL x0 x1 x2 x3 x4 x5 x6 x7 x8 x9 x10 x11 x12 x13 x14 x15 pc m).toArray 32 := by
    rw [hW]; exact (Row.new_at _ _ _ hb1).grows ((Grows.refl _).alloc _)
  have hZ : Row W b2 #[.int .u64 0, .int .u64 0, .int .u64 0, .int .u64 0] 27 := by
    rw [hW]; exact Row.new_at _ _ _ (by rw [hb2]; simp)
  clear hW
  have hg1 := hg.drew
  obtain ⟨V, hV⟩ : ∃ V, V = W.drew := ⟨_, rfl⟩
  have hR1 : Row V b1 (regsL x0 x1 x2 x3 x4 x5 x6 x7 x8 x9 x10 x11 x12 x13 x14 x15 pc m).toArray 32 := by rw [hV]; exact hR.grows ((Grows.refl _).drew)
  have hZ1 : Row V b2 #[.int .u64 0, .int .u64 0, .int .u64 0, .int .u64 0] 27 := by rw [hV]; exact hZ.grows ((Grows.refl _).drew)
  have c10 : V.cell? ⟨b1, 10, none⟩ = some (.int .u64 x10) := hR1.cell 10
  have c11 : V.cell? ⟨b1, 11, none⟩ = some (.int .u64 x11) := hR1.cell 11
  have c12 : V.cell? ⟨b1, 12, none⟩ = some (.int .u64 x12) := hR1.cell 12
  have c13 : V.cell? ⟨b1, 13, none⟩ = some (.int .u64 x13) := hR1.cell 13
  have c14 : V.cell? ⟨b1, 14, none⟩ = some (.int .u64 x14) := hR1.cell 14
  rw [← hV] at hg1
  have lR := hR1.lt
  refine wp_region_still_tail 8 (by kernel_rfl) (by kernel_rfl) ?_
  simp only [List.take_succ_cons, List.take_zero, List.drop_succ_cons, List.drop_zero]
  change wpStill _ _ W.drew _ _ _
  rw [← hV]
  have HG := Lib.hid (grows_setRow hg1 (b := b2) (by omega) #[.int .u64 x11, .int .u64 x12, .int .u64 x13, .int .u64 x14])
  have HV := Lib.hid hV
  clear hR hZ hg hb1 hb2 hV
  have ha : ∀ w, (Instr.arrayAt 27 (.slice (some ⟨b1, 11, none⟩) 4 5)).run Try.prog w = .ok (.pointer (some ⟨b1, 11, none⟩)) w := fun w => by kernel_rfl
  repeat still_step
  refine wpStill_nil ?_
  change wpList _ _ _ _ _ W.drew
  rw [← HV.out]
  have hF := row_setRow hZ1 #[.int .u64 x11, .int .u64 x12, .int .u64 x13, .int .u64 x14]
  have ho1 : (#[Value.int .u64 x11, .int .u64 x12, .int .u64 x13, .int .u64 x14] : Array Value).all (·.oneCell') = true := by simp [Value.oneCell']
  go_wp2_with (refine wpList_store_row rfl 27 _ _ rfl b2 #[.int .u64 x11, .int .u64 x12, .int .u64 x13, .int .u64 x14] rfl rfl 27 _ hZ1 rfl rfl ho1 ?_)
  have hcF := hF.cell
  exact bodyPost_ret (v := .tuple #[.int .u64 x10, .agg #[.int .u64 x11, .int .u64 x12, .int .u64 x13, .int .u64 x14]]) (by simp [results, Try.results10, go_sem, hcF, Act.put]) rfl ⟨rfl, HG.out⟩
end Go.Proofs.Ytjbgamifkgeodaa
