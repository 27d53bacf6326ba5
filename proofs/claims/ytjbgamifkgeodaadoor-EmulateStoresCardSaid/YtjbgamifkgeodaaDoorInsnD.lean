/- What Decode of the package insn computes. -/
import Derived.Test.YtjbgamifkgeodaaDoorInsnE
import Derived.Test.YtjbgamifkgeodaaDoorInsnF
namespace Go.Proofs.YtjbgamifkgeodaaDoor
open Go Go.RowKit
set_option linter.unusedSimpArgs false
set_option linter.unusedVariables false
set_option maxRecDepth 100000 in
set_option maxHeartbeats 2000000 in
theorem decode_noshape {x : Int} (hx : 0 ≤ x ∧ x < 4294967296) (h : ¬ 0 ≤ shapeZ (dOp x)) (w : World) :
    Calls Tryd.prog 12 #[.int .u32 x] w fun r w' => r = .returned (.tuple #[.agg #[.int .i64 0, .int .i64 0, .int .i64 0, .int .i64 0, .int .i64 0], .int .i64 10]) ∧ Grows w w' := by
  have hsh := fun w => shape_no (wf_field x 26 6) h w
  have HX := Lib.hid hx
  clear h hx
  go_enter Tryd.func12, Tryd.ntmps12
  go_wp2_with fail
  obtain ⟨b0, hb0⟩ : ∃ b, b = w.heap.size := ⟨_, rfl⟩
  obtain ⟨W, hW⟩ : ∃ W, W = w.alloc (Obj.cells #[.int .i64 0, .int .i64 0, .int .i64 0, .int .i64 0, .int .i64 0] 41) := ⟨_, rfl⟩
  rw [← hW, ← hb0]
  have hZ : Row W b0 (insnA 0 0 0 0 0) 41 := by rw [hW]; exact Row.new_at _ _ _ hb0
  have HG := Lib.hid (show Grows w W by rw [hW]; exact (Grows.refl _).alloc _)
  have HB0 := Lib.hid (show w.heap.size ≤ b0 by omega)
  clear hW hb0
  refine (field_any _ _ _ _ HX.out).mono ?_
  rintro _ w1 ⟨rfl, g1, rfl⟩
  go_wp2_with fail
  refine (field_any _ _ _ _ HX.out).mono ?_
  rintro _ w2 ⟨rfl, g2, rfl⟩
  obtain ⟨W1, hW1⟩ : ∃ W1, W1 = W.grow (g1.join g2) := ⟨_, rfl⟩
  rw [World.grow_grow, ← hW1]
  replace hZ : Row W1 b0 (insnA 0 0 0 0 0) 41 := by rw [hW1]; exact hZ.grows (Grows.of W _)
  replace HG := Lib.hid (show Grows w W1 by rw [hW1]; exact HG.out.grow _)
  clear hW1
  go_wp2_with fail
  obtain ⟨b1, hb1⟩ : ∃ b, b = W1.heap.size := ⟨_, rfl⟩
  obtain ⟨W2, hW2⟩ : ∃ W2, W2 = W1.alloc (Obj.cells #[.int .i64 (fieldZ x 26 6), .int .i64 (fieldZ x 22 4), .int .i64 0, .int .i64 0, .int .i64 0] 41) := ⟨_, rfl⟩
  rw [← hW2, ← hb1]
  have hn : b0 ≠ b1 := by have := hZ.lt; omega
  have hg10 := HG.out.size
  replace hZ : Row W2 b0 (insnA 0 0 0 0 0) 41 := by rw [hW2]; exact hZ.grows ((Grows.refl _).alloc _)
  
  have hX : Row W2 b1 (insnA (fieldZ x 26 6) (fieldZ x 22 4) 0 0 0) 41 := by rw [hW2]; exact Row.new_at _ _ _ hb1
  replace HG := Lib.hid (show Grows w W2 by rw [hW2]; exact HG.out.alloc _)
  have HB1 := Lib.hid (show w.heap.size ≤ b1 by have := hg10; omega)
  clear hW2 hb1 hg10
  refine (hsh _).mono ?_
  rintro _ w3 ⟨rfl, g3, rfl⟩
  obtain ⟨W3, hW3⟩ : ∃ WW, WW = World.grow W2 g3 := ⟨_, rfl⟩
  rw [← hW3]
  replace hZ : Row W3 b0 (insnA 0 0 0 0 0) 41 := by rw [hW3]; exact hZ.grows (Grows.of W2 _)
  replace hX : Row W3 b1 (insnA (fieldZ x 26 6) (fieldZ x 22 4) 0 0 0) 41 := by rw [hW3]; exact hX.grows (Grows.of W2 _)
  replace HG := Lib.hid (show Grows w W3 by rw [hW3]; exact HG.out.grow _)
  clear hW3
  clear hX
  have z0 : World.cell? W3 ⟨b0, 0, none⟩ = some (.int .i64 0) := hZ.cell 0
  have z1 : World.cell? W3 ⟨b0, 1, none⟩ = some (.int .i64 0) := hZ.cell 1
  have z2 : World.cell? W3 ⟨b0, 2, none⟩ = some (.int .i64 0) := hZ.cell 2
  have z3 : World.cell? W3 ⟨b0, 3, none⟩ = some (.int .i64 0) := hZ.cell 3
  have z4 : World.cell? W3 ⟨b0, 4, none⟩ = some (.int .i64 0) := hZ.cell 4
  have y0 := hZ.frozen 0
  have y1 := hZ.frozen 1
  have y2 := hZ.frozen 2
  have y3 := hZ.frozen 3
  have y4 := hZ.frozen 4
  have lz := hZ.lt
  go_wp2_with fail
  have hF := (row_set (row_set (row_set (row_set (row_set hZ 0 (.int .i64 0)) 1 (.int .i64 0)) 2 (.int .i64 0)) 3 (.int .i64 0)) 4 (.int .i64 0)).cell
  have hGF := ((((HG.out.setCell (p := ⟨b0, 0, none⟩) HB0.out (.int .i64 0)).setCell (p := ⟨b0, 1, none⟩) HB0.out (.int .i64 0)).setCell (p := ⟨b0, 2, none⟩) HB0.out (.int .i64 0)).setCell (p := ⟨b0, 3, none⟩) HB0.out (.int .i64 0)).setCell (p := ⟨b0, 4, none⟩) HB0.out (.int .i64 0)
  exact bodyPost_ret (v := .tuple #[.agg #[.int .i64 0, .int .i64 0, .int .i64 0, .int .i64 0, .int .i64 0], .int .i64 10]) (by simp [results, Tryd.results12, go_sem, hF]) rfl ⟨rfl, hGF⟩
set_option maxRecDepth 100000 in
set_option maxHeartbeats 4000000 in
theorem decode_no {x : Int} (hx : 0 ≤ x ∧ x < 4294967296) (h : decB x = false) (w : World) :
    Calls Tryd.prog 12 #[.int .u32 x] w fun r w' => r = .returned (.tuple #[.agg #[.int .i64 0, .int .i64 0, .int .i64 0, .int .i64 0, .int .i64 0], .int .i64 10]) ∧ Grows w w' := by
  by_cases hs : 0 ≤ shapeZ (dOp x)
  · have hsh := fun w => shape_yes (wf_field x 26 6) hs w
    cases hv : validB (dOp x) (dRd x) (dR1 x) (dR2 x) (dV x)
    · have hen := fun w => encode_no (wf_field x 26 6) hv w
      unfold dR1 dR2 dV at hen
      have HX := Lib.hid hx
      by_cases h5 : shapeZ (dOp x) = 5
      · simp only [if_pos h5] at hen
        unfold dOp at h5
        rw [h5] at hsh
        clear h hs hv hx h5
        go_enter Tryd.func12, Tryd.ntmps12
        go_wp2_with fail
        obtain ⟨b0, hb0⟩ : ∃ b, b = w.heap.size := ⟨_, rfl⟩
        obtain ⟨W, hW⟩ : ∃ W, W = w.alloc (Obj.cells #[.int .i64 0, .int .i64 0, .int .i64 0, .int .i64 0, .int .i64 0] 41) := ⟨_, rfl⟩
        rw [← hW, ← hb0]
        have hZ : Row W b0 (insnA 0 0 0 0 0) 41 := by rw [hW]; exact Row.new_at _ _ _ hb0
        have HG := Lib.hid (show Grows w W by rw [hW]; exact (Grows.refl _).alloc _)
        have HB0 := Lib.hid (show w.heap.size ≤ b0 by omega)
        clear hW hb0
        refine (field_any _ _ _ _ HX.out).mono ?_
        rintro _ w1 ⟨rfl, g1, rfl⟩
        go_wp2_with fail
        refine (field_any _ _ _ _ HX.out).mono ?_
        rintro _ w2 ⟨rfl, g2, rfl⟩
        obtain ⟨W1, hW1⟩ : ∃ W1, W1 = W.grow (g1.join g2) := ⟨_, rfl⟩
        rw [World.grow_grow, ← hW1]
        replace hZ : Row W1 b0 (insnA 0 0 0 0 0) 41 := by rw [hW1]; exact hZ.grows (Grows.of W _)
        replace HG := Lib.hid (show Grows w W1 by rw [hW1]; exact HG.out.grow _)
        clear hW1
        go_wp2_with fail
        obtain ⟨b1, hb1⟩ : ∃ b, b = W1.heap.size := ⟨_, rfl⟩
        obtain ⟨W2, hW2⟩ : ∃ W2, W2 = W1.alloc (Obj.cells #[.int .i64 (fieldZ x 26 6), .int .i64 (fieldZ x 22 4), .int .i64 0, .int .i64 0, .int .i64 0] 41) := ⟨_, rfl⟩
        rw [← hW2, ← hb1]
        have hn : b0 ≠ b1 := by have := hZ.lt; omega
        have hg10 := HG.out.size
        replace hZ : Row W2 b0 (insnA 0 0 0 0 0) 41 := by rw [hW2]; exact hZ.grows ((Grows.refl _).alloc _)
        
        have hX : Row W2 b1 (insnA (fieldZ x 26 6) (fieldZ x 22 4) 0 0 0) 41 := by rw [hW2]; exact Row.new_at _ _ _ hb1
        replace HG := Lib.hid (show Grows w W2 by rw [hW2]; exact HG.out.alloc _)
        have HB1 := Lib.hid (show w.heap.size ≤ b1 by have := hg10; omega)
        clear hW2 hb1 hg10
        refine (hsh _).mono ?_
        rintro _ w3 ⟨rfl, g3, rfl⟩
        obtain ⟨W3, hW3⟩ : ∃ WW, WW = World.grow W2 g3 := ⟨_, rfl⟩
        rw [← hW3]
        replace hZ : Row W3 b0 (insnA 0 0 0 0 0) 41 := by rw [hW3]; exact hZ.grows (Grows.of W2 _)
        replace hX : Row W3 b1 (insnA (fieldZ x 26 6) (fieldZ x 22 4) 0 0 0) 41 := by rw [hW3]; exact hX.grows (Grows.of W2 _)
        replace HG := Lib.hid (show Grows w W3 by rw [hW3]; exact HG.out.grow _)
        clear hW3
        go_wp2_with fail
        refine (field_any _ _ _ _ HX.out).mono ?_
        rintro _ w4 ⟨rfl, g4, rfl⟩
        go_wp2_with fail
        refine (sign_any _ _ _).mono ?_
        rintro _ w5 ⟨rfl, g5, rfl⟩
        rw [World.grow_grow]
        obtain ⟨W4, hW3⟩ : ∃ WW, WW = World.grow W3 (g4.join g5) := ⟨_, rfl⟩
        rw [← hW3]
        replace hZ : Row W4 b0 (insnA 0 0 0 0 0) 41 := by rw [hW3]; exact hZ.grows (Grows.of W3 _)
        replace hX : Row W4 b1 (insnA (fieldZ x 26 6) (fieldZ x 22 4) 0 0 0) 41 := by rw [hW3]; exact hX.grows (Grows.of W3 _)
        replace HG := Lib.hid (show Grows w W4 by rw [hW3]; exact HG.out.grow _)
        clear hW3
        have u0 : World.cell? W4 ⟨b1, 0, none⟩ = some (.int .i64 (fieldZ x 26 6)) := hX.cell 0
        have u1 : World.cell? W4 ⟨b1, 1, none⟩ = some (.int .i64 (fieldZ x 22 4)) := hX.cell 1
        have u2 : World.cell? W4 ⟨b1, 2, none⟩ = some (.int .i64 0) := hX.cell 2
        have u3 : World.cell? W4 ⟨b1, 3, none⟩ = some (.int .i64 0) := hX.cell 3
        have u4 : World.cell? W4 ⟨b1, 4, none⟩ = some (.int .i64 0) := hX.cell 4
        have v2 := hX.frozen 2
        have v3 := hX.frozen 3
        have v4 := hX.frozen 4
        have lx := hX.lt
        go_wp2_with fail
        obtain ⟨W5, hW5⟩ : ∃ W5, W5 = W4.setCell ⟨b1, 4, none⟩ (.int .i64 (sgnZ (fieldZ x 0 18) 18)) := ⟨_, rfl⟩
        rw [← hW5]
        replace hX : Row W5 b1 (insnA (fieldZ x 26 6) (fieldZ x 22 4) 0 0 (sgnZ (fieldZ x 0 18) 18)) 41 := by rw [hW5]; exact row_set hX 4 _
        replace hZ : Row W5 b0 (insnA 0 0 0 0 0) 41 := by rw [hW5]; exact row_setOther hZ (p := ⟨b1, 4, none⟩) (Ne.symm hn) _
        replace HG := Lib.hid (show Grows w W5 by rw [hW5]; exact HG.out.setCell (p := ⟨b1, 4, none⟩) HB1.out _)
        clear hW5 u0 u1 u2 u3 u4 v2 v3 v4 lx
        refine (hen _).mono ?_
        rintro _ w6 ⟨rfl, g6, rfl⟩
        obtain ⟨W6, hW3⟩ : ∃ WW, WW = World.grow W5 g6 := ⟨_, rfl⟩
        rw [← hW3]
        replace hZ : Row W6 b0 (insnA 0 0 0 0 0) 41 := by rw [hW3]; exact hZ.grows (Grows.of W5 _)
        replace hX : Row W6 b1 (insnA (fieldZ x 26 6) (fieldZ x 22 4) 0 0 (sgnZ (fieldZ x 0 18) 18)) 41 := by rw [hW3]; exact hX.grows (Grows.of W5 _)
        replace HG := Lib.hid (show Grows w W6 by rw [hW3]; exact HG.out.grow _)
        clear hW3
        clear hX
        have z0 : World.cell? W6 ⟨b0, 0, none⟩ = some (.int .i64 0) := hZ.cell 0
        have z1 : World.cell? W6 ⟨b0, 1, none⟩ = some (.int .i64 0) := hZ.cell 1
        have z2 : World.cell? W6 ⟨b0, 2, none⟩ = some (.int .i64 0) := hZ.cell 2
        have z3 : World.cell? W6 ⟨b0, 3, none⟩ = some (.int .i64 0) := hZ.cell 3
        have z4 : World.cell? W6 ⟨b0, 4, none⟩ = some (.int .i64 0) := hZ.cell 4
        have y0 := hZ.frozen 0
        have y1 := hZ.frozen 1
        have y2 := hZ.frozen 2
        have y3 := hZ.frozen 3
        have y4 := hZ.frozen 4
        have lz := hZ.lt
        go_wp2_with fail
        have hF := (row_set (row_set (row_set (row_set (row_set hZ 0 (.int .i64 0)) 1 (.int .i64 0)) 2 (.int .i64 0)) 3 (.int .i64 0)) 4 (.int .i64 0)).cell
        have hGF := ((((HG.out.setCell (p := ⟨b0, 0, none⟩) HB0.out (.int .i64 0)).setCell (p := ⟨b0, 1, none⟩) HB0.out (.int .i64 0)).setCell (p := ⟨b0, 2, none⟩) HB0.out (.int .i64 0)).setCell (p := ⟨b0, 3, none⟩) HB0.out (.int .i64 0)).setCell (p := ⟨b0, 4, none⟩) HB0.out (.int .i64 0)
        exact bodyPost_ret (v := .tuple #[.agg #[.int .i64 0, .int .i64 0, .int .i64 0, .int .i64 0, .int .i64 0], .int .i64 10]) (by simp [results, Tryd.results12, go_sem, hF]) rfl ⟨rfl, hGF⟩
      · simp only [if_neg h5] at hen
        obtain ⟨s, hse⟩ : ∃ s, s = shapeZ (dOp x) := ⟨_, rfl⟩
        have h5' : (s == 5) = false := by simp [hse, h5]
        unfold dOp at hse
        rw [← hse] at hsh
        clear h hs hv hx h5 hse
        go_enter Tryd.func12, Tryd.ntmps12
        go_wp2_with fail
        obtain ⟨b0, hb0⟩ : ∃ b, b = w.heap.size := ⟨_, rfl⟩
        obtain ⟨W, hW⟩ : ∃ W, W = w.alloc (Obj.cells #[.int .i64 0, .int .i64 0, .int .i64 0, .int .i64 0, .int .i64 0] 41) := ⟨_, rfl⟩
        rw [← hW, ← hb0]
        have hZ : Row W b0 (insnA 0 0 0 0 0) 41 := by rw [hW]; exact Row.new_at _ _ _ hb0
        have HG := Lib.hid (show Grows w W by rw [hW]; exact (Grows.refl _).alloc _)
        have HB0 := Lib.hid (show w.heap.size ≤ b0 by omega)
        clear hW hb0
        refine (field_any _ _ _ _ HX.out).mono ?_
        rintro _ w1 ⟨rfl, g1, rfl⟩
        go_wp2_with fail
        refine (field_any _ _ _ _ HX.out).mono ?_
        rintro _ w2 ⟨rfl, g2, rfl⟩
        obtain ⟨W1, hW1⟩ : ∃ W1, W1 = W.grow (g1.join g2) := ⟨_, rfl⟩
        rw [World.grow_grow, ← hW1]
        replace hZ : Row W1 b0 (insnA 0 0 0 0 0) 41 := by rw [hW1]; exact hZ.grows (Grows.of W _)
        replace HG := Lib.hid (show Grows w W1 by rw [hW1]; exact HG.out.grow _)
        clear hW1
        go_wp2_with fail
        obtain ⟨b1, hb1⟩ : ∃ b, b = W1.heap.size := ⟨_, rfl⟩
        obtain ⟨W2, hW2⟩ : ∃ W2, W2 = W1.alloc (Obj.cells #[.int .i64 (fieldZ x 26 6), .int .i64 (fieldZ x 22 4), .int .i64 0, .int .i64 0, .int .i64 0] 41) := ⟨_, rfl⟩
        rw [← hW2, ← hb1]
        have hn : b0 ≠ b1 := by have := hZ.lt; omega
        have hg10 := HG.out.size
        replace hZ : Row W2 b0 (insnA 0 0 0 0 0) 41 := by rw [hW2]; exact hZ.grows ((Grows.refl _).alloc _)
        
        have hX : Row W2 b1 (insnA (fieldZ x 26 6) (fieldZ x 22 4) 0 0 0) 41 := by rw [hW2]; exact Row.new_at _ _ _ hb1
        replace HG := Lib.hid (show Grows w W2 by rw [hW2]; exact HG.out.alloc _)
        have HB1 := Lib.hid (show w.heap.size ≤ b1 by have := hg10; omega)
        clear hW2 hb1 hg10
        refine (hsh _).mono ?_
        rintro _ w3 ⟨rfl, g3, rfl⟩
        obtain ⟨W3, hW3⟩ : ∃ WW, WW = World.grow W2 g3 := ⟨_, rfl⟩
        rw [← hW3]
        replace hZ : Row W3 b0 (insnA 0 0 0 0 0) 41 := by rw [hW3]; exact hZ.grows (Grows.of W2 _)
        replace hX : Row W3 b1 (insnA (fieldZ x 26 6) (fieldZ x 22 4) 0 0 0) 41 := by rw [hW3]; exact hX.grows (Grows.of W2 _)
        replace HG := Lib.hid (show Grows w W3 by rw [hW3]; exact HG.out.grow _)
        clear hW3
        go_wp2_with fail
        refine (field_any _ _ _ _ HX.out).mono ?_
        rintro _ w4 ⟨rfl, g4, rfl⟩
        go_wp2_with fail
        refine (field_any _ _ _ _ HX.out).mono ?_
        rintro _ w4 ⟨rfl, g5, rfl⟩
        go_wp2_with fail
        refine (field_any _ _ _ _ HX.out).mono ?_
        rintro _ w4 ⟨rfl, g6, rfl⟩
        go_wp2_with fail
        refine (sign_any _ _ _).mono ?_
        rintro _ w5 ⟨rfl, g7, rfl⟩
        simp only [World.grow_grow]
        obtain ⟨gg, hgg⟩ : ∃ gg, W3.grow gg = W3.grow (((g4.join g5).join g6).join g7) := ⟨_, rfl⟩
        rw [← hgg]
        clear hgg
        obtain ⟨W4, hW3⟩ : ∃ WW, WW = World.grow W3 gg := ⟨_, rfl⟩
        rw [← hW3]
        replace hZ : Row W4 b0 (insnA 0 0 0 0 0) 41 := by rw [hW3]; exact hZ.grows (Grows.of W3 _)
        replace hX : Row W4 b1 (insnA (fieldZ x 26 6) (fieldZ x 22 4) 0 0 0) 41 := by rw [hW3]; exact hX.grows (Grows.of W3 _)
        replace HG := Lib.hid (show Grows w W4 by rw [hW3]; exact HG.out.grow _)
        clear hW3
        have u0 : World.cell? W4 ⟨b1, 0, none⟩ = some (.int .i64 (fieldZ x 26 6)) := hX.cell 0
        have u1 : World.cell? W4 ⟨b1, 1, none⟩ = some (.int .i64 (fieldZ x 22 4)) := hX.cell 1
        have u2 : World.cell? W4 ⟨b1, 2, none⟩ = some (.int .i64 0) := hX.cell 2
        have u3 : World.cell? W4 ⟨b1, 3, none⟩ = some (.int .i64 0) := hX.cell 3
        have u4 : World.cell? W4 ⟨b1, 4, none⟩ = some (.int .i64 0) := hX.cell 4
        have v2 := hX.frozen 2
        have v3 := hX.frozen 3
        have v4 := hX.frozen 4
        have lx := hX.lt
        go_wp2_with fail
        obtain ⟨W5, hW5⟩ : ∃ W5, W5 = ((W4.setCell ⟨b1, 2, none⟩ (.int .i64 (fieldZ x 18 4))).setCell ⟨b1, 3, none⟩ (.int .i64 (fieldZ x 14 4))).setCell ⟨b1, 4, none⟩ (.int .i64 (sgnZ (fieldZ x 0 14) 14)) := ⟨_, rfl⟩
        rw [← hW5]
        replace hX : Row W5 b1 (insnA (fieldZ x 26 6) (fieldZ x 22 4) (fieldZ x 18 4) (fieldZ x 14 4) (sgnZ (fieldZ x 0 14) 14)) 41 := by rw [hW5]; exact row_set (row_set (row_set hX 2 _) 3 _) 4 _
        replace hZ : Row W5 b0 (insnA 0 0 0 0 0) 41 := by rw [hW5]; exact row_setOther (row_setOther (row_setOther hZ (p := ⟨b1, 2, none⟩) (Ne.symm hn) _) (p := ⟨b1, 3, none⟩) (Ne.symm hn) _) (p := ⟨b1, 4, none⟩) (Ne.symm hn) _
        replace HG := Lib.hid (show Grows w W5 by rw [hW5]; exact ((HG.out.setCell (p := ⟨b1, 2, none⟩) HB1.out _).setCell (p := ⟨b1, 3, none⟩) HB1.out _).setCell (p := ⟨b1, 4, none⟩) HB1.out _)
        clear hW5 u0 u1 u2 u3 u4 v2 v3 v4 lx
        refine (hen _).mono ?_
        rintro _ w6 ⟨rfl, g8, rfl⟩
        obtain ⟨W6, hW3⟩ : ∃ WW, WW = World.grow W5 g8 := ⟨_, rfl⟩
        rw [← hW3]
        replace hZ : Row W6 b0 (insnA 0 0 0 0 0) 41 := by rw [hW3]; exact hZ.grows (Grows.of W5 _)
        replace hX : Row W6 b1 (insnA (fieldZ x 26 6) (fieldZ x 22 4) (fieldZ x 18 4) (fieldZ x 14 4) (sgnZ (fieldZ x 0 14) 14)) 41 := by rw [hW3]; exact hX.grows (Grows.of W5 _)
        replace HG := Lib.hid (show Grows w W6 by rw [hW3]; exact HG.out.grow _)
        clear hW3
        clear hX
        have z0 : World.cell? W6 ⟨b0, 0, none⟩ = some (.int .i64 0) := hZ.cell 0
        have z1 : World.cell? W6 ⟨b0, 1, none⟩ = some (.int .i64 0) := hZ.cell 1
        have z2 : World.cell? W6 ⟨b0, 2, none⟩ = some (.int .i64 0) := hZ.cell 2
        have z3 : World.cell? W6 ⟨b0, 3, none⟩ = some (.int .i64 0) := hZ.cell 3
        have z4 : World.cell? W6 ⟨b0, 4, none⟩ = some (.int .i64 0) := hZ.cell 4
        have y0 := hZ.frozen 0
        have y1 := hZ.frozen 1
        have y2 := hZ.frozen 2
        have y3 := hZ.frozen 3
        have y4 := hZ.frozen 4
        have lz := hZ.lt
        go_wp2_with fail
        have hF := (row_set (row_set (row_set (row_set (row_set hZ 0 (.int .i64 0)) 1 (.int .i64 0)) 2 (.int .i64 0)) 3 (.int .i64 0)) 4 (.int .i64 0)).cell
        have hGF := ((((HG.out.setCell (p := ⟨b0, 0, none⟩) HB0.out (.int .i64 0)).setCell (p := ⟨b0, 1, none⟩) HB0.out (.int .i64 0)).setCell (p := ⟨b0, 2, none⟩) HB0.out (.int .i64 0)).setCell (p := ⟨b0, 3, none⟩) HB0.out (.int .i64 0)).setCell (p := ⟨b0, 4, none⟩) HB0.out (.int .i64 0)
        exact bodyPost_ret (v := .tuple #[.agg #[.int .i64 0, .int .i64 0, .int .i64 0, .int .i64 0, .int .i64 0], .int .i64 10]) (by simp [results, Tryd.results12, go_sem, hF]) rfl ⟨rfl, hGF⟩
    · have hen := fun w => encode_yes (wf_field x 26 6) hv w
      have hne : (encW (dOp x) (dRd x) (dR1 x) (dR2 x) (dV x) != x) = true := by
        unfold decB at h
        rw [hv, Bool.true_and] at h
        simpa using h
      obtain ⟨Q, hQ⟩ : ∃ Q, Q = encW (dOp x) (dRd x) (dR1 x) (dR2 x) (dV x) := ⟨_, rfl⟩
      rw [show encW (fieldZ x 26 6) (dRd x) (dR1 x) (dR2 x) (dV x) = Q from hQ.symm] at hen
      rw [← hQ] at hne
      unfold dR1 dR2 dV at hen
      have HX := Lib.hid hx
      by_cases h5 : shapeZ (dOp x) = 5
      · simp only [if_pos h5] at hen
        unfold dOp at h5
        rw [h5] at hsh
        clear h hs hv hx h5 hQ
        go_enter Tryd.func12, Tryd.ntmps12
        go_wp2_with fail
        obtain ⟨b0, hb0⟩ : ∃ b, b = w.heap.size := ⟨_, rfl⟩
        obtain ⟨W, hW⟩ : ∃ W, W = w.alloc (Obj.cells #[.int .i64 0, .int .i64 0, .int .i64 0, .int .i64 0, .int .i64 0] 41) := ⟨_, rfl⟩
        rw [← hW, ← hb0]
        have hZ : Row W b0 (insnA 0 0 0 0 0) 41 := by rw [hW]; exact Row.new_at _ _ _ hb0
        have HG := Lib.hid (show Grows w W by rw [hW]; exact (Grows.refl _).alloc _)
        have HB0 := Lib.hid (show w.heap.size ≤ b0 by omega)
        clear hW hb0
        refine (field_any _ _ _ _ HX.out).mono ?_
        rintro _ w1 ⟨rfl, g1, rfl⟩
        go_wp2_with fail
        refine (field_any _ _ _ _ HX.out).mono ?_
        rintro _ w2 ⟨rfl, g2, rfl⟩
        obtain ⟨W1, hW1⟩ : ∃ W1, W1 = W.grow (g1.join g2) := ⟨_, rfl⟩
        rw [World.grow_grow, ← hW1]
        replace hZ : Row W1 b0 (insnA 0 0 0 0 0) 41 := by rw [hW1]; exact hZ.grows (Grows.of W _)
        replace HG := Lib.hid (show Grows w W1 by rw [hW1]; exact HG.out.grow _)
        clear hW1
        go_wp2_with fail
        obtain ⟨b1, hb1⟩ : ∃ b, b = W1.heap.size := ⟨_, rfl⟩
        obtain ⟨W2, hW2⟩ : ∃ W2, W2 = W1.alloc (Obj.cells #[.int .i64 (fieldZ x 26 6), .int .i64 (fieldZ x 22 4), .int .i64 0, .int .i64 0, .int .i64 0] 41) := ⟨_, rfl⟩
        rw [← hW2, ← hb1]
        have hn : b0 ≠ b1 := by have := hZ.lt; omega
        have hg10 := HG.out.size
        replace hZ : Row W2 b0 (insnA 0 0 0 0 0) 41 := by rw [hW2]; exact hZ.grows ((Grows.refl _).alloc _)
        
        have hX : Row W2 b1 (insnA (fieldZ x 26 6) (fieldZ x 22 4) 0 0 0) 41 := by rw [hW2]; exact Row.new_at _ _ _ hb1
        replace HG := Lib.hid (show Grows w W2 by rw [hW2]; exact HG.out.alloc _)
        have HB1 := Lib.hid (show w.heap.size ≤ b1 by have := hg10; omega)
        clear hW2 hb1 hg10
        refine (hsh _).mono ?_
        rintro _ w3 ⟨rfl, g3, rfl⟩
        obtain ⟨W3, hW3⟩ : ∃ WW, WW = World.grow W2 g3 := ⟨_, rfl⟩
        rw [← hW3]
        replace hZ : Row W3 b0 (insnA 0 0 0 0 0) 41 := by rw [hW3]; exact hZ.grows (Grows.of W2 _)
        replace hX : Row W3 b1 (insnA (fieldZ x 26 6) (fieldZ x 22 4) 0 0 0) 41 := by rw [hW3]; exact hX.grows (Grows.of W2 _)
        replace HG := Lib.hid (show Grows w W3 by rw [hW3]; exact HG.out.grow _)
        clear hW3
        go_wp2_with fail
        refine (field_any _ _ _ _ HX.out).mono ?_
        rintro _ w4 ⟨rfl, g4, rfl⟩
        go_wp2_with fail
        refine (sign_any _ _ _).mono ?_
        rintro _ w5 ⟨rfl, g5, rfl⟩
        rw [World.grow_grow]
        obtain ⟨W4, hW3⟩ : ∃ WW, WW = World.grow W3 (g4.join g5) := ⟨_, rfl⟩
        rw [← hW3]
        replace hZ : Row W4 b0 (insnA 0 0 0 0 0) 41 := by rw [hW3]; exact hZ.grows (Grows.of W3 _)
        replace hX : Row W4 b1 (insnA (fieldZ x 26 6) (fieldZ x 22 4) 0 0 0) 41 := by rw [hW3]; exact hX.grows (Grows.of W3 _)
        replace HG := Lib.hid (show Grows w W4 by rw [hW3]; exact HG.out.grow _)
        clear hW3
        have u0 : World.cell? W4 ⟨b1, 0, none⟩ = some (.int .i64 (fieldZ x 26 6)) := hX.cell 0
        have u1 : World.cell? W4 ⟨b1, 1, none⟩ = some (.int .i64 (fieldZ x 22 4)) := hX.cell 1
        have u2 : World.cell? W4 ⟨b1, 2, none⟩ = some (.int .i64 0) := hX.cell 2
        have u3 : World.cell? W4 ⟨b1, 3, none⟩ = some (.int .i64 0) := hX.cell 3
        have u4 : World.cell? W4 ⟨b1, 4, none⟩ = some (.int .i64 0) := hX.cell 4
        have v2 := hX.frozen 2
        have v3 := hX.frozen 3
        have v4 := hX.frozen 4
        have lx := hX.lt
        go_wp2_with fail
        obtain ⟨W5, hW5⟩ : ∃ W5, W5 = W4.setCell ⟨b1, 4, none⟩ (.int .i64 (sgnZ (fieldZ x 0 18) 18)) := ⟨_, rfl⟩
        rw [← hW5]
        replace hX : Row W5 b1 (insnA (fieldZ x 26 6) (fieldZ x 22 4) 0 0 (sgnZ (fieldZ x 0 18) 18)) 41 := by rw [hW5]; exact row_set hX 4 _
        replace hZ : Row W5 b0 (insnA 0 0 0 0 0) 41 := by rw [hW5]; exact row_setOther hZ (p := ⟨b1, 4, none⟩) (Ne.symm hn) _
        replace HG := Lib.hid (show Grows w W5 by rw [hW5]; exact HG.out.setCell (p := ⟨b1, 4, none⟩) HB1.out _)
        clear hW5 u0 u1 u2 u3 u4 v2 v3 v4 lx
        refine (hen _).mono ?_
        rintro _ w6 ⟨rfl, g6, rfl⟩
        obtain ⟨W6, hW3⟩ : ∃ WW, WW = World.grow W5 g6 := ⟨_, rfl⟩
        rw [← hW3]
        replace hZ : Row W6 b0 (insnA 0 0 0 0 0) 41 := by rw [hW3]; exact hZ.grows (Grows.of W5 _)
        replace hX : Row W6 b1 (insnA (fieldZ x 26 6) (fieldZ x 22 4) 0 0 (sgnZ (fieldZ x 0 18) 18)) 41 := by rw [hW3]; exact hX.grows (Grows.of W5 _)
        replace HG := Lib.hid (show Grows w W6 by rw [hW3]; exact HG.out.grow _)
        clear hW3
        clear hX
        have z0 : World.cell? W6 ⟨b0, 0, none⟩ = some (.int .i64 0) := hZ.cell 0
        have z1 : World.cell? W6 ⟨b0, 1, none⟩ = some (.int .i64 0) := hZ.cell 1
        have z2 : World.cell? W6 ⟨b0, 2, none⟩ = some (.int .i64 0) := hZ.cell 2
        have z3 : World.cell? W6 ⟨b0, 3, none⟩ = some (.int .i64 0) := hZ.cell 3
        have z4 : World.cell? W6 ⟨b0, 4, none⟩ = some (.int .i64 0) := hZ.cell 4
        have y0 := hZ.frozen 0
        have y1 := hZ.frozen 1
        have y2 := hZ.frozen 2
        have y3 := hZ.frozen 3
        have y4 := hZ.frozen 4
        have lz := hZ.lt
        go_wp2_with fail
        have hF := (row_set (row_set (row_set (row_set (row_set hZ 0 (.int .i64 0)) 1 (.int .i64 0)) 2 (.int .i64 0)) 3 (.int .i64 0)) 4 (.int .i64 0)).cell
        have hGF := ((((HG.out.setCell (p := ⟨b0, 0, none⟩) HB0.out (.int .i64 0)).setCell (p := ⟨b0, 1, none⟩) HB0.out (.int .i64 0)).setCell (p := ⟨b0, 2, none⟩) HB0.out (.int .i64 0)).setCell (p := ⟨b0, 3, none⟩) HB0.out (.int .i64 0)).setCell (p := ⟨b0, 4, none⟩) HB0.out (.int .i64 0)
        exact bodyPost_ret (v := .tuple #[.agg #[.int .i64 0, .int .i64 0, .int .i64 0, .int .i64 0, .int .i64 0], .int .i64 10]) (by simp [results, Tryd.results12, go_sem, hF]) rfl ⟨rfl, hGF⟩
      · simp only [if_neg h5] at hen
        obtain ⟨s, hse⟩ : ∃ s, s = shapeZ (dOp x) := ⟨_, rfl⟩
        have h5' : (s == 5) = false := by simp [hse, h5]
        unfold dOp at hse
        rw [← hse] at hsh
        clear h hs hv hx h5 hse hQ
        go_enter Tryd.func12, Tryd.ntmps12
        go_wp2_with fail
        obtain ⟨b0, hb0⟩ : ∃ b, b = w.heap.size := ⟨_, rfl⟩
        obtain ⟨W, hW⟩ : ∃ W, W = w.alloc (Obj.cells #[.int .i64 0, .int .i64 0, .int .i64 0, .int .i64 0, .int .i64 0] 41) := ⟨_, rfl⟩
        rw [← hW, ← hb0]
        have hZ : Row W b0 (insnA 0 0 0 0 0) 41 := by rw [hW]; exact Row.new_at _ _ _ hb0
        have HG := Lib.hid (show Grows w W by rw [hW]; exact (Grows.refl _).alloc _)
        have HB0 := Lib.hid (show w.heap.size ≤ b0 by omega)
        clear hW hb0
        refine (field_any _ _ _ _ HX.out).mono ?_
        rintro _ w1 ⟨rfl, g1, rfl⟩
        go_wp2_with fail
        refine (field_any _ _ _ _ HX.out).mono ?_
        rintro _ w2 ⟨rfl, g2, rfl⟩
        obtain ⟨W1, hW1⟩ : ∃ W1, W1 = W.grow (g1.join g2) := ⟨_, rfl⟩
        rw [World.grow_grow, ← hW1]
        replace hZ : Row W1 b0 (insnA 0 0 0 0 0) 41 := by rw [hW1]; exact hZ.grows (Grows.of W _)
        replace HG := Lib.hid (show Grows w W1 by rw [hW1]; exact HG.out.grow _)
        clear hW1
        go_wp2_with fail
        obtain ⟨b1, hb1⟩ : ∃ b, b = W1.heap.size := ⟨_, rfl⟩
        obtain ⟨W2, hW2⟩ : ∃ W2, W2 = W1.alloc (Obj.cells #[.int .i64 (fieldZ x 26 6), .int .i64 (fieldZ x 22 4), .int .i64 0, .int .i64 0, .int .i64 0] 41) := ⟨_, rfl⟩
        rw [← hW2, ← hb1]
        have hn : b0 ≠ b1 := by have := hZ.lt; omega
        have hg10 := HG.out.size
        replace hZ : Row W2 b0 (insnA 0 0 0 0 0) 41 := by rw [hW2]; exact hZ.grows ((Grows.refl _).alloc _)
        
        have hX : Row W2 b1 (insnA (fieldZ x 26 6) (fieldZ x 22 4) 0 0 0) 41 := by rw [hW2]; exact Row.new_at _ _ _ hb1
        replace HG := Lib.hid (show Grows w W2 by rw [hW2]; exact HG.out.alloc _)
        have HB1 := Lib.hid (show w.heap.size ≤ b1 by have := hg10; omega)
        clear hW2 hb1 hg10
        refine (hsh _).mono ?_
        rintro _ w3 ⟨rfl, g3, rfl⟩
        obtain ⟨W3, hW3⟩ : ∃ WW, WW = World.grow W2 g3 := ⟨_, rfl⟩
        rw [← hW3]
        replace hZ : Row W3 b0 (insnA 0 0 0 0 0) 41 := by rw [hW3]; exact hZ.grows (Grows.of W2 _)
        replace hX : Row W3 b1 (insnA (fieldZ x 26 6) (fieldZ x 22 4) 0 0 0) 41 := by rw [hW3]; exact hX.grows (Grows.of W2 _)
        replace HG := Lib.hid (show Grows w W3 by rw [hW3]; exact HG.out.grow _)
        clear hW3
        go_wp2_with fail
        refine (field_any _ _ _ _ HX.out).mono ?_
        rintro _ w4 ⟨rfl, g4, rfl⟩
        go_wp2_with fail
        refine (field_any _ _ _ _ HX.out).mono ?_
        rintro _ w4 ⟨rfl, g5, rfl⟩
        go_wp2_with fail
        refine (field_any _ _ _ _ HX.out).mono ?_
        rintro _ w4 ⟨rfl, g6, rfl⟩
        go_wp2_with fail
        refine (sign_any _ _ _).mono ?_
        rintro _ w5 ⟨rfl, g7, rfl⟩
        simp only [World.grow_grow]
        obtain ⟨gg, hgg⟩ : ∃ gg, W3.grow gg = W3.grow (((g4.join g5).join g6).join g7) := ⟨_, rfl⟩
        rw [← hgg]
        clear hgg
        obtain ⟨W4, hW3⟩ : ∃ WW, WW = World.grow W3 gg := ⟨_, rfl⟩
        rw [← hW3]
        replace hZ : Row W4 b0 (insnA 0 0 0 0 0) 41 := by rw [hW3]; exact hZ.grows (Grows.of W3 _)
        replace hX : Row W4 b1 (insnA (fieldZ x 26 6) (fieldZ x 22 4) 0 0 0) 41 := by rw [hW3]; exact hX.grows (Grows.of W3 _)
        replace HG := Lib.hid (show Grows w W4 by rw [hW3]; exact HG.out.grow _)
        clear hW3
        have u0 : World.cell? W4 ⟨b1, 0, none⟩ = some (.int .i64 (fieldZ x 26 6)) := hX.cell 0
        have u1 : World.cell? W4 ⟨b1, 1, none⟩ = some (.int .i64 (fieldZ x 22 4)) := hX.cell 1
        have u2 : World.cell? W4 ⟨b1, 2, none⟩ = some (.int .i64 0) := hX.cell 2
        have u3 : World.cell? W4 ⟨b1, 3, none⟩ = some (.int .i64 0) := hX.cell 3
        have u4 : World.cell? W4 ⟨b1, 4, none⟩ = some (.int .i64 0) := hX.cell 4
        have v2 := hX.frozen 2
        have v3 := hX.frozen 3
        have v4 := hX.frozen 4
        have lx := hX.lt
        go_wp2_with fail
        obtain ⟨W5, hW5⟩ : ∃ W5, W5 = ((W4.setCell ⟨b1, 2, none⟩ (.int .i64 (fieldZ x 18 4))).setCell ⟨b1, 3, none⟩ (.int .i64 (fieldZ x 14 4))).setCell ⟨b1, 4, none⟩ (.int .i64 (sgnZ (fieldZ x 0 14) 14)) := ⟨_, rfl⟩
        rw [← hW5]
        replace hX : Row W5 b1 (insnA (fieldZ x 26 6) (fieldZ x 22 4) (fieldZ x 18 4) (fieldZ x 14 4) (sgnZ (fieldZ x 0 14) 14)) 41 := by rw [hW5]; exact row_set (row_set (row_set hX 2 _) 3 _) 4 _
        replace hZ : Row W5 b0 (insnA 0 0 0 0 0) 41 := by rw [hW5]; exact row_setOther (row_setOther (row_setOther hZ (p := ⟨b1, 2, none⟩) (Ne.symm hn) _) (p := ⟨b1, 3, none⟩) (Ne.symm hn) _) (p := ⟨b1, 4, none⟩) (Ne.symm hn) _
        replace HG := Lib.hid (show Grows w W5 by rw [hW5]; exact ((HG.out.setCell (p := ⟨b1, 2, none⟩) HB1.out _).setCell (p := ⟨b1, 3, none⟩) HB1.out _).setCell (p := ⟨b1, 4, none⟩) HB1.out _)
        clear hW5 u0 u1 u2 u3 u4 v2 v3 v4 lx
        refine (hen _).mono ?_
        rintro _ w6 ⟨rfl, g8, rfl⟩
        obtain ⟨W6, hW3⟩ : ∃ WW, WW = World.grow W5 g8 := ⟨_, rfl⟩
        rw [← hW3]
        replace hZ : Row W6 b0 (insnA 0 0 0 0 0) 41 := by rw [hW3]; exact hZ.grows (Grows.of W5 _)
        replace hX : Row W6 b1 (insnA (fieldZ x 26 6) (fieldZ x 22 4) (fieldZ x 18 4) (fieldZ x 14 4) (sgnZ (fieldZ x 0 14) 14)) 41 := by rw [hW3]; exact hX.grows (Grows.of W5 _)
        replace HG := Lib.hid (show Grows w W6 by rw [hW3]; exact HG.out.grow _)
        clear hW3
        clear hX
        have z0 : World.cell? W6 ⟨b0, 0, none⟩ = some (.int .i64 0) := hZ.cell 0
        have z1 : World.cell? W6 ⟨b0, 1, none⟩ = some (.int .i64 0) := hZ.cell 1
        have z2 : World.cell? W6 ⟨b0, 2, none⟩ = some (.int .i64 0) := hZ.cell 2
        have z3 : World.cell? W6 ⟨b0, 3, none⟩ = some (.int .i64 0) := hZ.cell 3
        have z4 : World.cell? W6 ⟨b0, 4, none⟩ = some (.int .i64 0) := hZ.cell 4
        have y0 := hZ.frozen 0
        have y1 := hZ.frozen 1
        have y2 := hZ.frozen 2
        have y3 := hZ.frozen 3
        have y4 := hZ.frozen 4
        have lz := hZ.lt
        go_wp2_with fail
        have hF := (row_set (row_set (row_set (row_set (row_set hZ 0 (.int .i64 0)) 1 (.int .i64 0)) 2 (.int .i64 0)) 3 (.int .i64 0)) 4 (.int .i64 0)).cell
        have hGF := ((((HG.out.setCell (p := ⟨b0, 0, none⟩) HB0.out (.int .i64 0)).setCell (p := ⟨b0, 1, none⟩) HB0.out (.int .i64 0)).setCell (p := ⟨b0, 2, none⟩) HB0.out (.int .i64 0)).setCell (p := ⟨b0, 3, none⟩) HB0.out (.int .i64 0)).setCell (p := ⟨b0, 4, none⟩) HB0.out (.int .i64 0)
        exact bodyPost_ret (v := .tuple #[.agg #[.int .i64 0, .int .i64 0, .int .i64 0, .int .i64 0, .int .i64 0], .int .i64 10]) (by simp [results, Tryd.results12, go_sem, hF]) rfl ⟨rfl, hGF⟩
  · exact decode_noshape hx hs w
set_option maxRecDepth 100000 in
set_option maxHeartbeats 4000000 in
theorem decode_yes {x : Int} (hx : 0 ≤ x ∧ x < 4294967296) (h : decB x = true) (w : World) :
    Calls Tryd.prog 12 #[.int .u32 x] w fun r w' => r = .returned (.tuple #[.agg #[.int .i64 (dOp x), .int .i64 (dRd x), .int .i64 (dR1 x), .int .i64 (dR2 x), .int .i64 (dV x)], .int .i64 0]) ∧ Grows w w' := by
  have hv : validB (dOp x) (dRd x) (dR1 x) (dR2 x) (dV x) = true := by
    unfold decB at h; rw [Bool.and_eq_true] at h; exact h.1
  have he : encW (dOp x) (dRd x) (dR1 x) (dR2 x) (dV x) = x := by
    unfold decB at h; rw [Bool.and_eq_true] at h; simpa using h.2
  have hs : 0 ≤ shapeZ (dOp x) := (validB_bounds hv).2.2.2.2.2.2.2.2.2.1
  have hsh := fun w => shape_yes (wf_field x 26 6) hs w
  have hen := fun w => encode_yes (wf_field x 26 6) hv w
  rw [show encW (fieldZ x 26 6) (dRd x) (dR1 x) (dR2 x) (dV x) = x from he] at hen
  unfold dR1 dR2 dV at hen
  have HX := Lib.hid hx
  by_cases h5 : shapeZ (dOp x) = 5
  · simp only [if_pos h5] at hen
    unfold dR1 dR2 dV
    rw [if_pos h5, if_pos h5, if_pos h5]
    unfold dOp dRd
    unfold dOp at h5
    rw [h5] at hsh
    clear h hs hv hx h5 he
    go_enter Tryd.func12, Tryd.ntmps12
    go_wp2_with fail
    obtain ⟨b0, hb0⟩ : ∃ b, b = w.heap.size := ⟨_, rfl⟩
    obtain ⟨W, hW⟩ : ∃ W, W = w.alloc (Obj.cells #[.int .i64 0, .int .i64 0, .int .i64 0, .int .i64 0, .int .i64 0] 41) := ⟨_, rfl⟩
    rw [← hW, ← hb0]
    have hZ : Row W b0 (insnA 0 0 0 0 0) 41 := by rw [hW]; exact Row.new_at _ _ _ hb0
    have HG := Lib.hid (show Grows w W by rw [hW]; exact (Grows.refl _).alloc _)
    have HB0 := Lib.hid (show w.heap.size ≤ b0 by omega)
    clear hW hb0
    refine (field_any _ _ _ _ HX.out).mono ?_
    rintro _ w1 ⟨rfl, g1, rfl⟩
    go_wp2_with fail
    refine (field_any _ _ _ _ HX.out).mono ?_
    rintro _ w2 ⟨rfl, g2, rfl⟩
    obtain ⟨W1, hW1⟩ : ∃ W1, W1 = W.grow (g1.join g2) := ⟨_, rfl⟩
    rw [World.grow_grow, ← hW1]
    replace hZ : Row W1 b0 (insnA 0 0 0 0 0) 41 := by rw [hW1]; exact hZ.grows (Grows.of W _)
    replace HG := Lib.hid (show Grows w W1 by rw [hW1]; exact HG.out.grow _)
    clear hW1
    go_wp2_with fail
    obtain ⟨b1, hb1⟩ : ∃ b, b = W1.heap.size := ⟨_, rfl⟩
    obtain ⟨W2, hW2⟩ : ∃ W2, W2 = W1.alloc (Obj.cells #[.int .i64 (fieldZ x 26 6), .int .i64 (fieldZ x 22 4), .int .i64 0, .int .i64 0, .int .i64 0] 41) := ⟨_, rfl⟩
    rw [← hW2, ← hb1]
    have hn : b0 ≠ b1 := by have := hZ.lt; omega
    have hg10 := HG.out.size
    replace hZ : Row W2 b0 (insnA 0 0 0 0 0) 41 := by rw [hW2]; exact hZ.grows ((Grows.refl _).alloc _)
    
    have hX : Row W2 b1 (insnA (fieldZ x 26 6) (fieldZ x 22 4) 0 0 0) 41 := by rw [hW2]; exact Row.new_at _ _ _ hb1
    replace HG := Lib.hid (show Grows w W2 by rw [hW2]; exact HG.out.alloc _)
    have HB1 := Lib.hid (show w.heap.size ≤ b1 by have := hg10; omega)
    clear hW2 hb1 hg10
    refine (hsh _).mono ?_
    rintro _ w3 ⟨rfl, g3, rfl⟩
    obtain ⟨W3, hW3⟩ : ∃ WW, WW = World.grow W2 g3 := ⟨_, rfl⟩
    rw [← hW3]
    replace hZ : Row W3 b0 (insnA 0 0 0 0 0) 41 := by rw [hW3]; exact hZ.grows (Grows.of W2 _)
    replace hX : Row W3 b1 (insnA (fieldZ x 26 6) (fieldZ x 22 4) 0 0 0) 41 := by rw [hW3]; exact hX.grows (Grows.of W2 _)
    replace HG := Lib.hid (show Grows w W3 by rw [hW3]; exact HG.out.grow _)
    clear hW3
    go_wp2_with fail
    refine (field_any _ _ _ _ HX.out).mono ?_
    rintro _ w4 ⟨rfl, g4, rfl⟩
    go_wp2_with fail
    refine (sign_any _ _ _).mono ?_
    rintro _ w5 ⟨rfl, g5, rfl⟩
    rw [World.grow_grow]
    obtain ⟨W4, hW3⟩ : ∃ WW, WW = World.grow W3 (g4.join g5) := ⟨_, rfl⟩
    rw [← hW3]
    replace hZ : Row W4 b0 (insnA 0 0 0 0 0) 41 := by rw [hW3]; exact hZ.grows (Grows.of W3 _)
    replace hX : Row W4 b1 (insnA (fieldZ x 26 6) (fieldZ x 22 4) 0 0 0) 41 := by rw [hW3]; exact hX.grows (Grows.of W3 _)
    replace HG := Lib.hid (show Grows w W4 by rw [hW3]; exact HG.out.grow _)
    clear hW3
    have u0 : World.cell? W4 ⟨b1, 0, none⟩ = some (.int .i64 (fieldZ x 26 6)) := hX.cell 0
    have u1 : World.cell? W4 ⟨b1, 1, none⟩ = some (.int .i64 (fieldZ x 22 4)) := hX.cell 1
    have u2 : World.cell? W4 ⟨b1, 2, none⟩ = some (.int .i64 0) := hX.cell 2
    have u3 : World.cell? W4 ⟨b1, 3, none⟩ = some (.int .i64 0) := hX.cell 3
    have u4 : World.cell? W4 ⟨b1, 4, none⟩ = some (.int .i64 0) := hX.cell 4
    have v2 := hX.frozen 2
    have v3 := hX.frozen 3
    have v4 := hX.frozen 4
    have lx := hX.lt
    go_wp2_with fail
    obtain ⟨W5, hW5⟩ : ∃ W5, W5 = W4.setCell ⟨b1, 4, none⟩ (.int .i64 (sgnZ (fieldZ x 0 18) 18)) := ⟨_, rfl⟩
    rw [← hW5]
    replace hX : Row W5 b1 (insnA (fieldZ x 26 6) (fieldZ x 22 4) 0 0 (sgnZ (fieldZ x 0 18) 18)) 41 := by rw [hW5]; exact row_set hX 4 _
    replace hZ : Row W5 b0 (insnA 0 0 0 0 0) 41 := by rw [hW5]; exact row_setOther hZ (p := ⟨b1, 4, none⟩) (Ne.symm hn) _
    replace HG := Lib.hid (show Grows w W5 by rw [hW5]; exact HG.out.setCell (p := ⟨b1, 4, none⟩) HB1.out _)
    clear hW5 u0 u1 u2 u3 u4 v2 v3 v4 lx
    refine (hen _).mono ?_
    rintro _ w6 ⟨rfl, g6, rfl⟩
    obtain ⟨W6, hW3⟩ : ∃ WW, WW = World.grow W5 g6 := ⟨_, rfl⟩
    rw [← hW3]
    replace hZ : Row W6 b0 (insnA 0 0 0 0 0) 41 := by rw [hW3]; exact hZ.grows (Grows.of W5 _)
    replace hX : Row W6 b1 (insnA (fieldZ x 26 6) (fieldZ x 22 4) 0 0 (sgnZ (fieldZ x 0 18) 18)) 41 := by rw [hW3]; exact hX.grows (Grows.of W5 _)
    replace HG := Lib.hid (show Grows w W6 by rw [hW3]; exact HG.out.grow _)
    clear hW3
    have z0 : World.cell? W6 ⟨b0, 0, none⟩ = some (.int .i64 0) := hZ.cell 0
    have z1 : World.cell? W6 ⟨b0, 1, none⟩ = some (.int .i64 0) := hZ.cell 1
    have z2 : World.cell? W6 ⟨b0, 2, none⟩ = some (.int .i64 0) := hZ.cell 2
    have z3 : World.cell? W6 ⟨b0, 3, none⟩ = some (.int .i64 0) := hZ.cell 3
    have z4 : World.cell? W6 ⟨b0, 4, none⟩ = some (.int .i64 0) := hZ.cell 4
    have y0 := hZ.frozen 0
    have y1 := hZ.frozen 1
    have y2 := hZ.frozen 2
    have y3 := hZ.frozen 3
    have y4 := hZ.frozen 4
    have lz := hZ.lt
    have u0 : World.cell? W6 ⟨b1, 0, none⟩ = some (.int .i64 (fieldZ x 26 6)) := hX.cell 0
    have u1 : World.cell? W6 ⟨b1, 1, none⟩ = some (.int .i64 (fieldZ x 22 4)) := hX.cell 1
    have u2 : World.cell? W6 ⟨b1, 2, none⟩ = some (.int .i64 0) := hX.cell 2
    have u3 : World.cell? W6 ⟨b1, 3, none⟩ = some (.int .i64 0) := hX.cell 3
    have u4 : World.cell? W6 ⟨b1, 4, none⟩ = some (.int .i64 (sgnZ (fieldZ x 0 18) 18)) := hX.cell 4
    have v2 := hX.frozen 2
    have v3 := hX.frozen 3
    have v4 := hX.frozen 4
    have lx := hX.lt
    go_wp2_with fail
    have hF := (row_set (row_set (row_set (row_set (row_set hZ 0 (.int .i64 (fieldZ x 26 6))) 1 (.int .i64 (fieldZ x 22 4))) 2 (.int .i64 0)) 3 (.int .i64 0)) 4 (.int .i64 (sgnZ (fieldZ x 0 18) 18))).cell
    have hGF := ((((HG.out.setCell (p := ⟨b0, 0, none⟩) HB0.out (.int .i64 (fieldZ x 26 6))).setCell (p := ⟨b0, 1, none⟩) HB0.out (.int .i64 (fieldZ x 22 4))).setCell (p := ⟨b0, 2, none⟩) HB0.out (.int .i64 0)).setCell (p := ⟨b0, 3, none⟩) HB0.out (.int .i64 0)).setCell (p := ⟨b0, 4, none⟩) HB0.out (.int .i64 (sgnZ (fieldZ x 0 18) 18))
    exact bodyPost_ret (v := .tuple #[.agg #[.int .i64 (fieldZ x 26 6), .int .i64 (fieldZ x 22 4), .int .i64 0, .int .i64 0, .int .i64 (sgnZ (fieldZ x 0 18) 18)], .int .i64 0]) (by simp [results, Tryd.results12, go_sem, hF]) rfl ⟨rfl, hGF⟩
  · simp only [if_neg h5] at hen
    unfold dR1 dR2 dV
    rw [if_neg h5, if_neg h5, if_neg h5]
    unfold dOp dRd
    obtain ⟨s, hse⟩ : ∃ s, s = shapeZ (dOp x) := ⟨_, rfl⟩
    have h5' : (s == 5) = false := by simp [hse, h5]
    unfold dOp at hse
    rw [← hse] at hsh
    clear h hs hv hx h5 hse he
    go_enter Tryd.func12, Tryd.ntmps12
    go_wp2_with fail
    obtain ⟨b0, hb0⟩ : ∃ b, b = w.heap.size := ⟨_, rfl⟩
    obtain ⟨W, hW⟩ : ∃ W, W = w.alloc (Obj.cells #[.int .i64 0, .int .i64 0, .int .i64 0, .int .i64 0, .int .i64 0] 41) := ⟨_, rfl⟩
    rw [← hW, ← hb0]
    have hZ : Row W b0 (insnA 0 0 0 0 0) 41 := by rw [hW]; exact Row.new_at _ _ _ hb0
    have HG := Lib.hid (show Grows w W by rw [hW]; exact (Grows.refl _).alloc _)
    have HB0 := Lib.hid (show w.heap.size ≤ b0 by omega)
    clear hW hb0
    refine (field_any _ _ _ _ HX.out).mono ?_
    rintro _ w1 ⟨rfl, g1, rfl⟩
    go_wp2_with fail
    refine (field_any _ _ _ _ HX.out).mono ?_
    rintro _ w2 ⟨rfl, g2, rfl⟩
    obtain ⟨W1, hW1⟩ : ∃ W1, W1 = W.grow (g1.join g2) := ⟨_, rfl⟩
    rw [World.grow_grow, ← hW1]
    replace hZ : Row W1 b0 (insnA 0 0 0 0 0) 41 := by rw [hW1]; exact hZ.grows (Grows.of W _)
    replace HG := Lib.hid (show Grows w W1 by rw [hW1]; exact HG.out.grow _)
    clear hW1
    go_wp2_with fail
    obtain ⟨b1, hb1⟩ : ∃ b, b = W1.heap.size := ⟨_, rfl⟩
    obtain ⟨W2, hW2⟩ : ∃ W2, W2 = W1.alloc (Obj.cells #[.int .i64 (fieldZ x 26 6), .int .i64 (fieldZ x 22 4), .int .i64 0, .int .i64 0, .int .i64 0] 41) := ⟨_, rfl⟩
    rw [← hW2, ← hb1]
    have hn : b0 ≠ b1 := by have := hZ.lt; omega
    have hg10 := HG.out.size
    replace hZ : Row W2 b0 (insnA 0 0 0 0 0) 41 := by rw [hW2]; exact hZ.grows ((Grows.refl _).alloc _)
    
    have hX : Row W2 b1 (insnA (fieldZ x 26 6) (fieldZ x 22 4) 0 0 0) 41 := by rw [hW2]; exact Row.new_at _ _ _ hb1
    replace HG := Lib.hid (show Grows w W2 by rw [hW2]; exact HG.out.alloc _)
    have HB1 := Lib.hid (show w.heap.size ≤ b1 by have := hg10; omega)
    clear hW2 hb1 hg10
    refine (hsh _).mono ?_
    rintro _ w3 ⟨rfl, g3, rfl⟩
    obtain ⟨W3, hW3⟩ : ∃ WW, WW = World.grow W2 g3 := ⟨_, rfl⟩
    rw [← hW3]
    replace hZ : Row W3 b0 (insnA 0 0 0 0 0) 41 := by rw [hW3]; exact hZ.grows (Grows.of W2 _)
    replace hX : Row W3 b1 (insnA (fieldZ x 26 6) (fieldZ x 22 4) 0 0 0) 41 := by rw [hW3]; exact hX.grows (Grows.of W2 _)
    replace HG := Lib.hid (show Grows w W3 by rw [hW3]; exact HG.out.grow _)
    clear hW3
    go_wp2_with fail
    refine (field_any _ _ _ _ HX.out).mono ?_
    rintro _ w4 ⟨rfl, g4, rfl⟩
    go_wp2_with fail
    refine (field_any _ _ _ _ HX.out).mono ?_
    rintro _ w4 ⟨rfl, g5, rfl⟩
    go_wp2_with fail
    refine (field_any _ _ _ _ HX.out).mono ?_
    rintro _ w4 ⟨rfl, g6, rfl⟩
    go_wp2_with fail
    refine (sign_any _ _ _).mono ?_
    rintro _ w5 ⟨rfl, g7, rfl⟩
    simp only [World.grow_grow]
    obtain ⟨gg, hgg⟩ : ∃ gg, W3.grow gg = W3.grow (((g4.join g5).join g6).join g7) := ⟨_, rfl⟩
    rw [← hgg]
    clear hgg
    obtain ⟨W4, hW3⟩ : ∃ WW, WW = World.grow W3 gg := ⟨_, rfl⟩
    rw [← hW3]
    replace hZ : Row W4 b0 (insnA 0 0 0 0 0) 41 := by rw [hW3]; exact hZ.grows (Grows.of W3 _)
    replace hX : Row W4 b1 (insnA (fieldZ x 26 6) (fieldZ x 22 4) 0 0 0) 41 := by rw [hW3]; exact hX.grows (Grows.of W3 _)
    replace HG := Lib.hid (show Grows w W4 by rw [hW3]; exact HG.out.grow _)
    clear hW3
    have u0 : World.cell? W4 ⟨b1, 0, none⟩ = some (.int .i64 (fieldZ x 26 6)) := hX.cell 0
    have u1 : World.cell? W4 ⟨b1, 1, none⟩ = some (.int .i64 (fieldZ x 22 4)) := hX.cell 1
    have u2 : World.cell? W4 ⟨b1, 2, none⟩ = some (.int .i64 0) := hX.cell 2
    have u3 : World.cell? W4 ⟨b1, 3, none⟩ = some (.int .i64 0) := hX.cell 3
    have u4 : World.cell? W4 ⟨b1, 4, none⟩ = some (.int .i64 0) := hX.cell 4
    have v2 := hX.frozen 2
    have v3 := hX.frozen 3
    have v4 := hX.frozen 4
    have lx := hX.lt
    go_wp2_with fail
    obtain ⟨W5, hW5⟩ : ∃ W5, W5 = ((W4.setCell ⟨b1, 2, none⟩ (.int .i64 (fieldZ x 18 4))).setCell ⟨b1, 3, none⟩ (.int .i64 (fieldZ x 14 4))).setCell ⟨b1, 4, none⟩ (.int .i64 (sgnZ (fieldZ x 0 14) 14)) := ⟨_, rfl⟩
    rw [← hW5]
    replace hX : Row W5 b1 (insnA (fieldZ x 26 6) (fieldZ x 22 4) (fieldZ x 18 4) (fieldZ x 14 4) (sgnZ (fieldZ x 0 14) 14)) 41 := by rw [hW5]; exact row_set (row_set (row_set hX 2 _) 3 _) 4 _
    replace hZ : Row W5 b0 (insnA 0 0 0 0 0) 41 := by rw [hW5]; exact row_setOther (row_setOther (row_setOther hZ (p := ⟨b1, 2, none⟩) (Ne.symm hn) _) (p := ⟨b1, 3, none⟩) (Ne.symm hn) _) (p := ⟨b1, 4, none⟩) (Ne.symm hn) _
    replace HG := Lib.hid (show Grows w W5 by rw [hW5]; exact ((HG.out.setCell (p := ⟨b1, 2, none⟩) HB1.out _).setCell (p := ⟨b1, 3, none⟩) HB1.out _).setCell (p := ⟨b1, 4, none⟩) HB1.out _)
    clear hW5 u0 u1 u2 u3 u4 v2 v3 v4 lx
    refine (hen _).mono ?_
    rintro _ w6 ⟨rfl, g8, rfl⟩
    obtain ⟨W6, hW3⟩ : ∃ WW, WW = World.grow W5 g8 := ⟨_, rfl⟩
    rw [← hW3]
    replace hZ : Row W6 b0 (insnA 0 0 0 0 0) 41 := by rw [hW3]; exact hZ.grows (Grows.of W5 _)
    replace hX : Row W6 b1 (insnA (fieldZ x 26 6) (fieldZ x 22 4) (fieldZ x 18 4) (fieldZ x 14 4) (sgnZ (fieldZ x 0 14) 14)) 41 := by rw [hW3]; exact hX.grows (Grows.of W5 _)
    replace HG := Lib.hid (show Grows w W6 by rw [hW3]; exact HG.out.grow _)
    clear hW3
    have z0 : World.cell? W6 ⟨b0, 0, none⟩ = some (.int .i64 0) := hZ.cell 0
    have z1 : World.cell? W6 ⟨b0, 1, none⟩ = some (.int .i64 0) := hZ.cell 1
    have z2 : World.cell? W6 ⟨b0, 2, none⟩ = some (.int .i64 0) := hZ.cell 2
    have z3 : World.cell? W6 ⟨b0, 3, none⟩ = some (.int .i64 0) := hZ.cell 3
    have z4 : World.cell? W6 ⟨b0, 4, none⟩ = some (.int .i64 0) := hZ.cell 4
    have y0 := hZ.frozen 0
    have y1 := hZ.frozen 1
    have y2 := hZ.frozen 2
    have y3 := hZ.frozen 3
    have y4 := hZ.frozen 4
    have lz := hZ.lt
    have u0 : World.cell? W6 ⟨b1, 0, none⟩ = some (.int .i64 (fieldZ x 26 6)) := hX.cell 0
    have u1 : World.cell? W6 ⟨b1, 1, none⟩ = some (.int .i64 (fieldZ x 22 4)) := hX.cell 1
    have u2 : World.cell? W6 ⟨b1, 2, none⟩ = some (.int .i64 (fieldZ x 18 4)) := hX.cell 2
    have u3 : World.cell? W6 ⟨b1, 3, none⟩ = some (.int .i64 (fieldZ x 14 4)) := hX.cell 3
    have u4 : World.cell? W6 ⟨b1, 4, none⟩ = some (.int .i64 (sgnZ (fieldZ x 0 14) 14)) := hX.cell 4
    have v2 := hX.frozen 2
    have v3 := hX.frozen 3
    have v4 := hX.frozen 4
    have lx := hX.lt
    go_wp2_with fail
    have hF := (row_set (row_set (row_set (row_set (row_set hZ 0 (.int .i64 (fieldZ x 26 6))) 1 (.int .i64 (fieldZ x 22 4))) 2 (.int .i64 (fieldZ x 18 4))) 3 (.int .i64 (fieldZ x 14 4))) 4 (.int .i64 (sgnZ (fieldZ x 0 14) 14))).cell
    have hGF := ((((HG.out.setCell (p := ⟨b0, 0, none⟩) HB0.out (.int .i64 (fieldZ x 26 6))).setCell (p := ⟨b0, 1, none⟩) HB0.out (.int .i64 (fieldZ x 22 4))).setCell (p := ⟨b0, 2, none⟩) HB0.out (.int .i64 (fieldZ x 18 4))).setCell (p := ⟨b0, 3, none⟩) HB0.out (.int .i64 (fieldZ x 14 4))).setCell (p := ⟨b0, 4, none⟩) HB0.out (.int .i64 (sgnZ (fieldZ x 0 14) 14))
    exact bodyPost_ret (v := .tuple #[.agg #[.int .i64 (fieldZ x 26 6), .int .i64 (fieldZ x 22 4), .int .i64 (fieldZ x 18 4), .int .i64 (fieldZ x 14 4), .int .i64 (sgnZ (fieldZ x 0 14) 14)], .int .i64 0]) (by simp [results, Tryd.results12, go_sem, hF]) rfl ⟨rfl, hGF⟩
end Go.Proofs.YtjbgamifkgeodaaDoor
