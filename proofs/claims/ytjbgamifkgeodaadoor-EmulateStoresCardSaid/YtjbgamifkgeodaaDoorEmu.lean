/- What Fault, Call, Skip and Answer of the package emulate, and of its reference, compute. -/
import Derived.Test.YtjbgamifkgeodaaDoorProg
import Derived.Test.YtjbgamifkgeodaaDoorBase
import Derived.Test.YtjbgamifkgeodaaDoorNum
import Derived.Test.YtjbgamifkgeodaaDoorCell
import Derived.OpenShut
import Derived.Lib.Hide
import Derived.StillTailTactics
namespace Go.Proofs.YtjbgamifkgeodaaDoor
open Go Go.RowKit
set_option linter.unusedSimpArgs false
set_option linter.unusedVariables false
def faultC (c : Int) : Int := if c = 20 then 1 else if c = 21 then 5 else if c = 23 then 7 else c
abbrev regsL (x0 x1 x2 x3 x4 x5 x6 x7 x8 x9 x10 x11 x12 x13 x14 x15 pc m : Int) : List Value := [.int .u64 x0, .int .u64 x1, .int .u64 x2, .int .u64 x3, .int .u64 x4, .int .u64 x5, .int .u64 x6, .int .u64 x7, .int .u64 x8, .int .u64 x9, .int .u64 x10, .int .u64 x11, .int .u64 x12, .int .u64 x13, .int .u64 x14, .int .u64 x15, .int .u64 pc, .int .i64 m]
abbrev regs0 : List Value := [.int .u64 0, .int .u64 0, .int .u64 0, .int .u64 0, .int .u64 0, .int .u64 0, .int .u64 0, .int .u64 0, .int .u64 0, .int .u64 0, .int .u64 0, .int .u64 0, .int .u64 0, .int .u64 0, .int .u64 0, .int .u64 0, .int .u64 0, .int .i64 0]
theorem skip_any (x0 x1 x2 x3 x4 x5 x6 x7 x8 x9 x10 x11 x12 x13 x14 x15 pc m : Int) (w : World) :
    Calls Tryd.prog 9 #[.agg #[.int .u64 x0, .int .u64 x1, .int .u64 x2, .int .u64 x3, .int .u64 x4, .int .u64 x5, .int .u64 x6, .int .u64 x7, .int .u64 x8, .int .u64 x9, .int .u64 x10, .int .u64 x11, .int .u64 x12, .int .u64 x13, .int .u64 x14, .int .u64 x15, .int .u64 pc, .int .i64 m]] w fun r w' => r = .returned (.agg #[.int .u64 x0, .int .u64 x1, .int .u64 x2, .int .u64 x3, .int .u64 x4, .int .u64 x5, .int .u64 x6, .int .u64 x7, .int .u64 x8, .int .u64 x9, .int .u64 x10, .int .u64 x11, .int .u64 x12, .int .u64 x13, .int .u64 x14, .int .u64 x15, .int .u64 (IntKind.u64.wrap (pc + 4)), .int .i64 m]) ∧ Grows w w' := by
  go_enter Tryd.func9, Tryd.ntmps9
  iterate 8 (first | go_values | go_skip | go_guarded | go_step | go_upon | go_back)
  obtain ⟨W, hW⟩ : ∃ W, W = (w.alloc (Obj.cells (regsL x0 x1 x2 x3 x4 x5 x6 x7 x8 x9 x10 x11 x12 x13 x14 x15 pc m).toArray 26)).alloc (Obj.cells regs0.toArray 26) := ⟨_, rfl⟩
  rw [← hW]
  have hg : Grows w W := by rw [hW]; exact ((Grows.refl _).alloc _).alloc _
  obtain ⟨b1, hb1⟩ : ∃ b, b = w.heap.size := ⟨_, rfl⟩
  obtain ⟨b2, hb2⟩ : ∃ b, b = w.heap.size + 1 := ⟨_, rfl⟩
  rw [← hb2, ← hb1]
  have hR : Row W b1 (regsL x0 x1 x2 x3 x4 x5 x6 x7 x8 x9 x10 x11 x12 x13 x14 x15 pc m).toArray 26 := by
    rw [hW]; exact (Row.new_at _ _ _ hb1).grows ((Grows.refl _).alloc _)
  have hZ : Row W b2 regs0.toArray 26 := by
    rw [hW]; exact Row.new_at _ _ _ (by rw [hb2]; simp)
  clear hW
  have hn : b1 ≠ b2 := by omega
  have cR : W.cell? ⟨b1, 16, none⟩ = some (.int .u64 pc) := hR.cell 16
  have fR := hR.frozen 16
  have lR := hR.lt
  obtain ⟨W1, hW1⟩ : ∃ W1, W1 = W.setCell ⟨b1, 16, none⟩ (.int .u64 (IntKind.u64.wrap (pc + 4))) := ⟨_, rfl⟩
  have hR1 : Row W1 b1 (regsL x0 x1 x2 x3 x4 x5 x6 x7 x8 x9 x10 x11 x12 x13 x14 x15 (IntKind.u64.wrap (pc + 4)) m).toArray 26 := by
    rw [hW1]; exact row_setCell hR (i := 16) (by simp) _
  have hZ1 : Row W1 b2 regs0.toArray 26 := by
    rw [hW1]; exact row_setOther hZ (p := ⟨b1, 16, none⟩) hn _
  have hg1 : Grows w W1 := by rw [hW1]; exact hg.setCell (by simp; omega) _
  rw [hW1] at hR1 hZ1 hg1
  have hF := row_setRow hZ1 (regsL x0 x1 x2 x3 x4 x5 x6 x7 x8 x9 x10 x11 x12 x13 x14 x15 (IntKind.u64.wrap (pc + 4)) m).toArray
  have hGF := grows_setRow hg1 (b := b2) (by omega) (regsL x0 x1 x2 x3 x4 x5 x6 x7 x8 x9 x10 x11 x12 x13 x14 x15 (IntKind.u64.wrap (pc + 4)) m).toArray
  have HF := Lib.hid (And.intro hF hGF)
  clear hF hGF hg1 hW1 hg hb1 hb2 hR hZ
  have ho1 : (regsL x0 x1 x2 x3 x4 x5 x6 x7 x8 x9 x10 x11 x12 x13 x14 x15 (IntKind.u64.wrap (pc + 4)) m).toArray.all (·.oneCell') = true := by simp [regsL, Value.oneCell']
  go_wp2_with (first | (refine wpList_load_row rfl 26 _ rfl b1 rfl 26 _ (0, 0) _ hR1 Tryd.underlying26 rfl rfl ?_) | (refine wpList_store_row rfl 26 _ _ rfl b2 (regsL x0 x1 x2 x3 x4 x5 x6 x7 x8 x9 x10 x11 x12 x13 x14 x15 (IntKind.u64.wrap (pc + 4)) m).toArray rfl rfl 26 _ hZ1 rfl rfl ho1 ?_))
  exact bodyPost_ret (results_cell_row rfl _ _ b2 26 _ (0, 0) _ rfl HF.out.1 Tryd.underlying26 rfl rfl) rfl ⟨rfl, HF.out.2⟩
end Go.Proofs.YtjbgamifkgeodaaDoor
