/- The walk of InsnDecodes. -/
import Derived.Test.YtjbgamifkgeodaaInsnEncW
import Derived.Test.YtjbgamifkgeodaaInsnD
namespace Go.Proofs.Ytjbgamifkgeodaa
open Go Go.RowKit
set_option linter.unusedSimpArgs false
set_option linter.unusedVariables false
set_option maxRecDepth 100000 in
set_option maxHeartbeats 4000000 in
theorem decodes_law {x A B C D E Z : Int} (hd : ∀ w, Calls Try.prog 22 #[.int .u32 x] w fun r w' => r = .returned (.tuple #[.agg #[.int .i64 A, .int .i64 B, .int .i64 C, .int .i64 D, .int .i64 E], .int .i64 Z]) ∧ Grows w w')
    (hr : ∀ w, Calls Try.prog 23 #[.int .u32 x] w fun r w' => r = .returned (.tuple #[.agg #[.int .i64 A, .int .i64 B, .int .i64 C, .int .i64 D, .int .i64 E], .int .i64 Z]) ∧ Grows w w') (w : World) :
    Calls Try.prog 7 #[.int .u32 x] w fun r w' => r = .returned (.bool true) ∧ Grows w w' := by
  go_enter Try.func7, Try.ntmps7
  go_wp2_with fail
  refine (hd _).mono ?_
  rintro _ w1 ⟨rfl, g1, rfl⟩
  go_wp2_with fail
  obtain ⟨b0, hb0⟩ : ∃ b, b = w.heap.size + g1.size := ⟨_, rfl⟩
  obtain ⟨W, hW⟩ : ∃ W, W = (w.grow g1).alloc (Obj.cells #[.int .i64 A, .int .i64 B, .int .i64 C, .int .i64 D, .int .i64 E] 40) := ⟨_, rfl⟩
  rw [← hW, ← hb0]
  have hX : Row W b0 (insnA A B C D E) 40 := by rw [hW]; exact Row.new_at _ _ _ (by rw [hb0]; simp)
  have HG := Lib.hid (show Grows w W by rw [hW]; exact ((Grows.refl _).grow _).alloc _)
  clear hW hb0
  refine (hr _).mono ?_
  rintro _ w1 ⟨rfl, g2, rfl⟩
  obtain ⟨W2, hW2⟩ : ∃ WW, WW = W.grow g2 := ⟨_, rfl⟩
  rw [← hW2]
  replace hX : Row W2 b0 (insnA A B C D E) 40 := by rw [hW2]; exact hX.grows (Grows.of W _)
  replace HG := Lib.hid (show Grows w W2 by rw [hW2]; exact HG.out.grow _)
  clear hW2
  have x0 : World.cell? W2 ⟨b0, 0, none⟩ = some (.int .i64 A) := hX.cell 0
  have x1 : World.cell? W2 ⟨b0, 1, none⟩ = some (.int .i64 B) := hX.cell 1
  have x2 : World.cell? W2 ⟨b0, 2, none⟩ = some (.int .i64 C) := hX.cell 2
  have x3 : World.cell? W2 ⟨b0, 3, none⟩ = some (.int .i64 D) := hX.cell 3
  have x4 : World.cell? W2 ⟨b0, 4, none⟩ = some (.int .i64 E) := hX.cell 4
  have lx := hX.lt
  go_wp2_with fail
  refine (names_any _).mono ?_
  rintro _ w1 ⟨rfl, g3, rfl⟩
  go_wp2_with fail
  go_ret
  exact ⟨rfl, (HG.out.alloc _).grow _⟩
theorem insnDecodes_walk (x : Int) (wx : (Lit.int .u32 x).wf = true) (w : World) :
    Calls Try.prog 7 #[.int .u32 x] w fun r w' => r = .returned (.bool true) ∧ Grows w w' := by
  have hb := bounds_u32 wx
  have hx : 0 ≤ x ∧ x < 4294967296 := by omega
  cases h : decB x
  · exact decodes_law (decode_no hx h) (rdecode_no hx h) w
  · exact decodes_law (decode_yes hx h) (rdecode_yes hx h) w
end Go.Proofs.Ytjbgamifkgeodaa
