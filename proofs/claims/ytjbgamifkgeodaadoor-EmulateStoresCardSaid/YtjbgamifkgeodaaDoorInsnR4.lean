/- What Encode and Decode of the reference of the package insn compute. -/
import Derived.Test.YtjbgamifkgeodaaDoorInsnR3
import Derived.Test.YtjbgamifkgeodaaDoorInsnF
namespace Go.Proofs.YtjbgamifkgeodaaDoor
open Go Go.RowKit
set_option linter.unusedSimpArgs false
set_option linter.unusedVariables false
theorem rvalid_any (op rd r1 r2 v : Int) (w : World) :
    Calls Tryd.prog 19 #[.agg #[.int .i64 op, .int .i64 rd, .int .i64 r1, .int .i64 r2, .int .i64 v]] w fun r w' => r = .returned (.bool (validB op rd r1 r2 v)) ∧ Grows w w' := by
  by_cases h0 : 0 ≤ shapeZ op
  · cases h1 : inB rd
    · have e : validB op rd r1 r2 v = false := by
        unfold validB regB; unfold inB at h1; rw [h1]; simp
      rw [e]; exact rvalid_no (Or.inr (Or.inl h1)) w
    cases h2 : inB r1
    · have e : validB op rd r1 r2 v = false := by
        unfold validB regB; unfold inB at h2; rw [h2]; simp
      rw [e]; exact rvalid_no (Or.inr (Or.inr (Or.inl h2))) w
    cases h3 : inB r2
    · have e : validB op rd r1 r2 v = false := by
        unfold validB regB; unfold inB at h3; rw [h3]; simp
      rw [e]; exact rvalid_no (Or.inr (Or.inr (Or.inr (Or.inl h3)))) w
    cases h4 : immB op (shapeZ op) v
    · have e : validB op rd r1 r2 v = false := by
        unfold validB; rw [h4]; simp
      rw [e]; exact rvalid_no (Or.inr (Or.inr (Or.inr (Or.inr h4)))) w
    exact rvalid_fin h0 h1 h2 h3 h4 w
  · have e : validB op rd r1 r2 v = false := by
      unfold validB; rw [decide_eq_false h0]; simp
    rw [e]; exact rvalid_no (Or.inl (decide_eq_false h0)) w
theorem rencode_no {op rd r1 r2 v : Int} (h : validB op rd r1 r2 v = false) (w : World) :
    Calls Tryd.prog 11 #[.agg #[.int .i64 op, .int .i64 rd, .int .i64 r1, .int .i64 r2, .int .i64 v]] w fun r w' => r = .returned (.tuple #[.int .u32 0, .int .i64 10]) ∧ Grows w w' := by
  have hv := fun w => rvalid_any op rd r1 r2 v w
  rw [h] at hv
  clear h
  go_enter Tryd.func11, Tryd.ntmps11
  go_wp2_with fail
  refine (hv _).mono ?_
  rintro _ w1 ⟨rfl, g1, rfl⟩
  go_wp2_with fail
  go_ret2
  exact ⟨rfl, ((Grows.refl _).alloc _).grow _⟩
set_option maxRecDepth 100000 in
set_option maxHeartbeats 4000000 in
theorem rencode_yes {op rd r1 r2 v : Int} (h : validB op rd r1 r2 v = true) (w : World) :
    Calls Tryd.prog 11 #[.agg #[.int .i64 op, .int .i64 rd, .int .i64 r1, .int .i64 r2, .int .i64 v]] w fun r w' => r = .returned (.tuple #[.int .u32 (encW op rd r1 r2 v), .int .i64 0]) ∧ Grows w w' := by
  have hv := fun w => rvalid_any op rd r1 r2 v w
  rw [h] at hv
  have hsh := fun w => rshape_any op w
  obtain ⟨p5, pn⟩ := enc_places h
  have q1 := place_lt op 26 6 (x := 0) (by omega) (by omega)
  have q2 := place_lt rd 22 4 q1.1 q1.2
  have q3 := place_lt r1 18 4 q2.1 q2.2
  have q4 := place_lt r2 14 4 q3.1 q3.2
  obtain ⟨P1, e1⟩ : ∃ P, P = placeZ 0 op 26 6 := ⟨_, rfl⟩
  have c1 := fun w => rplace_any 0 op 26 6 w (by omega)
  rw [← e1] at p5 pn q1 q2 q3 q4 c1
  obtain ⟨P2, e2⟩ : ∃ P, P = placeZ P1 rd 22 4 := ⟨_, rfl⟩
  have c2 := fun w => rplace_any P1 rd 22 4 w q1
  rw [← e2] at p5 pn q2 q3 q4 c2
  by_cases h5 : shapeZ op = 5
  · have hp := p5 h5
    have c3 := fun w => rplace_any P2 v 0 18 w q2
    rw [hp] at c3
    rw [h5] at hsh
    clear p5 pn q1 q2 q3 q4 e1 e2 h5 hp h
    go_enter Tryd.func11, Tryd.ntmps11
    go_wp2_with fail
    refine (hv _).mono ?_
    rintro _ w1 ⟨rfl, g1, rfl⟩
    go_wp2_with fail
    refine (c1 _).mono ?_
    rintro _ w1 ⟨rfl, g2, rfl⟩
    go_wp2_with fail
    refine (c2 _).mono ?_
    rintro _ w1 ⟨rfl, g3, rfl⟩
    go_wp2_with fail
    refine (hsh _).mono ?_
    rintro _ w1 ⟨rfl, g4, rfl⟩
    go_wp2_with fail
    refine (c3 _).mono ?_
    rintro _ w1 ⟨rfl, g5, rfl⟩
    go_wp2_with fail
    go_ret2
    exact ⟨rfl, ((Grows.refl _).alloc _).grow _⟩
  · have hp := pn h5
    obtain ⟨P3, e3⟩ : ∃ P, P = placeZ P2 r1 18 4 := ⟨_, rfl⟩
    have c3 := fun w => rplace_any P2 r1 18 4 w q2
    rw [← e3] at hp q3 q4 c3
    obtain ⟨P4, e4⟩ : ∃ P, P = placeZ P3 r2 14 4 := ⟨_, rfl⟩
    have c4 := fun w => rplace_any P3 r2 14 4 w q3
    rw [← e4] at hp q4 c4
    have c5 := fun w => rplace_any P4 v 0 14 w q4
    rw [hp] at c5
    obtain ⟨s, hs⟩ : ∃ s, s = shapeZ op := ⟨_, rfl⟩
    rw [← hs] at hsh h5
    have b5 : (s == 5) = false := by simp [h5]
    clear p5 pn q1 q2 q3 q4 e1 e2 e3 e4 h5 hp h hs
    go_enter Tryd.func11, Tryd.ntmps11
    go_wp2_with fail
    refine (hv _).mono ?_
    rintro _ w1 ⟨rfl, g1, rfl⟩
    go_wp2_with fail
    refine (c1 _).mono ?_
    rintro _ w1 ⟨rfl, g2, rfl⟩
    go_wp2_with fail
    refine (c2 _).mono ?_
    rintro _ w1 ⟨rfl, g3, rfl⟩
    go_wp2_with fail
    refine (hsh _).mono ?_
    rintro _ w1 ⟨rfl, g4, rfl⟩
    go_wp2_with fail
    refine (c3 _).mono ?_
    rintro _ w1 ⟨rfl, g5, rfl⟩
    go_wp2_with fail
    refine (c4 _).mono ?_
    rintro _ w1 ⟨rfl, g6, rfl⟩
    go_wp2_with fail
    refine (c5 _).mono ?_
    rintro _ w1 ⟨rfl, g7, rfl⟩
    go_wp2_with fail
    go_ret2
    exact ⟨rfl, ((Grows.refl _).alloc _).grow _⟩
set_option maxRecDepth 100000 in
set_option maxHeartbeats 4000000 in
theorem rdecode_no {x : Int} (hx : 0 ≤ x ∧ x < 4294967296) (h : decB x = false) (w : World) :
    Calls Tryd.prog 14 #[.int .u32 x] w fun r w' => r = .returned (.tuple #[.agg #[.int .i64 0, .int .i64 0, .int .i64 0, .int .i64 0, .int .i64 0], .int .i64 10]) ∧ Grows w w' := by
  · have hsh := fun w => rshape_any (fieldZ x 26 6) w
    have hs : True := trivial
    cases hv : validB (dOp x) (dRd x) (dR1 x) (dR2 x) (dV x)
    · have hen := fun w => rencode_no hv w
      unfold dR1 dR2 dV at hen
      have HX := Lib.hid hx
      by_cases h5 : shapeZ (dOp x) = 5
      · simp only [if_pos h5] at hen
        unfold dOp at h5
        rw [h5] at hsh
        clear h hs hv hx h5
        go_enter Tryd.func14, Tryd.ntmps14
        go_wp2_with fail
        obtain ⟨b0, hb0⟩ : ∃ b, b = w.heap.size := ⟨_, rfl⟩
        obtain ⟨W, hW⟩ : ∃ W, W = w.alloc (Obj.cells #[.int .i64 0, .int .i64 0, .int .i64 0, .int .i64 0, .int .i64 0] 41) := ⟨_, rfl⟩
        rw [← hW, ← hb0]
        have hZ : Row W b0 (insnA 0 0 0 0 0) 41 := by rw [hW]; exact Row.new_at _ _ _ hb0
        have HG := Lib.hid (show Grows w W by rw [hW]; exact (Grows.refl _).alloc _)
        have HB0 := Lib.hid (show w.heap.size ≤ b0 by omega)
        clear hW hb0
        refine (rfield_any _ _ _ _ HX.out).mono ?_
        rintro _ w1 ⟨rfl, g1, rfl⟩
        go_wp2_with fail
        refine (rfield_any _ _ _ _ HX.out).mono ?_
        rintro _ w2 ⟨rfl, g2, rfl⟩
        obtain ⟨W1, hW1⟩ : ∃ W1, W1 = W.grow (g1.join g2) := ⟨_, rfl⟩
        rw [World.grow_grow, ← hW1]
        replace hZ : Row W1 b0 (insnA 0 0 0 0 0) 41 := by rw [hW1]; exact hZ.grows (Grows.of W _)
        replace HG := Lib.hid (show Grows w W1 by rw [hW1]; exact HG.out.grow _)
        clear hW1
        go_wp2_with fail
        obtain ⟨b1, hb1⟩ : ∃ b, b = W1.heap.size := ⟨_, rfl⟩
        obtain ⟨W2, hW2⟩ : ∃ W2, W2 = W1.alloc (Obj.cells #[.int .i64 (fieldZ x 26 6), .int .i64 (fieldZ x 22 4), .int .i64 0, .int .i64 0, .int .i64 0] 41) := ⟨_, rfl⟩
        rw [← hW2, ← hb1]
        have hn : b0 ≠ b1 := by have := hZ.lt; omega
        have hg10 := HG.out.size
        replace hZ : Row W2 b0 (insnA 0 0 0 0 0) 41 := by rw [hW2]; exact hZ.grows ((Grows.refl _).alloc _)
        
        have hX : Row W2 b1 (insnA (fieldZ x 26 6) (fieldZ x 22 4) 0 0 0) 41 := by rw [hW2]; exact Row.new_at _ _ _ hb1
        replace HG := Lib.hid (show Grows w W2 by rw [hW2]; exact HG.out.alloc _)
        have HB1 := Lib.hid (show w.heap.size ≤ b1 by have := hg10; omega)
        clear hW2 hb1 hg10
        refine (hsh _).mono ?_
        rintro _ w3 ⟨rfl, g3, rfl⟩
        obtain ⟨W3, hW3⟩ : ∃ WW, WW = World.grow W2 g3 := ⟨_, rfl⟩
        rw [← hW3]
        replace hZ : Row W3 b0 (insnA 0 0 0 0 0) 41 := by rw [hW3]; exact hZ.grows (Grows.of W2 _)
        replace hX : Row W3 b1 (insnA (fieldZ x 26 6) (fieldZ x 22 4) 0 0 0) 41 := by rw [hW3]; exact hX.grows (Grows.of W2 _)
        replace HG := Lib.hid (show Grows w W3 by rw [hW3]; exact HG.out.grow _)
        clear hW3
        go_wp2_with fail
        refine (rfield_any _ _ _ _ HX.out).mono ?_
        rintro _ w4 ⟨rfl, g4, rfl⟩
        go_wp2_with fail
        refine (rsign_any _ _ _).mono ?_
        rintro _ w5 ⟨rfl, g5, rfl⟩
        rw [World.grow_grow]
        obtain ⟨W4, hW3⟩ : ∃ WW, WW = World.grow W3 (g4.join g5) := ⟨_, rfl⟩
        rw [← hW3]
        replace hZ : Row W4 b0 (insnA 0 0 0 0 0) 41 := by rw [hW3]; exact hZ.grows (Grows.of W3 _)
        replace hX : Row W4 b1 (insnA (fieldZ x 26 6) (fieldZ x 22 4) 0 0 0) 41 := by rw [hW3]; exact hX.grows (Grows.of W3 _)
        replace HG := Lib.hid (show Grows w W4 by rw [hW3]; exact HG.out.grow _)
        clear hW3
        have u0 : World.cell? W4 ⟨b1, 0, none⟩ = some (.int .i64 (fieldZ x 26 6)) := hX.cell 0
        have u1 : World.cell? W4 ⟨b1, 1, none⟩ = some (.int .i64 (fieldZ x 22 4)) := hX.cell 1
        have u2 : World.cell? W4 ⟨b1, 2, none⟩ = some (.int .i64 0) := hX.cell 2
        have u3 : World.cell? W4 ⟨b1, 3, none⟩ = some (.int .i64 0) := hX.cell 3
        have u4 : World.cell? W4 ⟨b1, 4, none⟩ = some (.int .i64 0) := hX.cell 4
        have v2 := hX.frozen 2
        have v3 := hX.frozen 3
        have v4 := hX.frozen 4
        have lx := hX.lt
        go_wp2_with fail
        obtain ⟨W5, hW5⟩ : ∃ W5, W5 = W4.setCell ⟨b1, 4, none⟩ (.int .i64 (sgnZ (fieldZ x 0 18) 18)) := ⟨_, rfl⟩
        rw [← hW5]
        replace hX : Row W5 b1 (insnA (fieldZ x 26 6) (fieldZ x 22 4) 0 0 (sgnZ (fieldZ x 0 18) 18)) 41 := by rw [hW5]; exact row_set hX 4 _
        replace hZ : Row W5 b0 (insnA 0 0 0 0 0) 41 := by rw [hW5]; exact row_setOther hZ (p := ⟨b1, 4, none⟩) (Ne.symm hn) _
        replace HG := Lib.hid (show Grows w W5 by rw [hW5]; exact HG.out.setCell (p := ⟨b1, 4, none⟩) HB1.out _)
        clear hW5 u0 u1 u2 u3 u4 v2 v3 v4 lx
        refine (hen _).mono ?_
        rintro _ w6 ⟨rfl, g6, rfl⟩
        obtain ⟨W6, hW3⟩ : ∃ WW, WW = World.grow W5 g6 := ⟨_, rfl⟩
        rw [← hW3]
        replace hZ : Row W6 b0 (insnA 0 0 0 0 0) 41 := by rw [hW3]; exact hZ.grows (Grows.of W5 _)
        replace hX : Row W6 b1 (insnA (fieldZ x 26 6) (fieldZ x 22 4) 0 0 (sgnZ (fieldZ x 0 18) 18)) 41 := by rw [hW3]; exact hX.grows (Grows.of W5 _)
        replace HG := Lib.hid (show Grows w W6 by rw [hW3]; exact HG.out.grow _)
        clear hW3
        clear hX
        have z0 : World.cell? W6 ⟨b0, 0, none⟩ = some (.int .i64 0) := hZ.cell 0
        have z1 : World.cell? W6 ⟨b0, 1, none⟩ = some (.int .i64 0) := hZ.cell 1
        have z2 : World.cell? W6 ⟨b0, 2, none⟩ = some (.int .i64 0) := hZ.cell 2
        have z3 : World.cell? W6 ⟨b0, 3, none⟩ = some (.int .i64 0) := hZ.cell 3
        have z4 : World.cell? W6 ⟨b0, 4, none⟩ = some (.int .i64 0) := hZ.cell 4
        have y0 := hZ.frozen 0
        have y1 := hZ.frozen 1
        have y2 := hZ.frozen 2
        have y3 := hZ.frozen 3
        have y4 := hZ.frozen 4
        have lz := hZ.lt
        go_wp2_with fail
        have hF := (row_set (row_set (row_set (row_set (row_set hZ 0 (.int .i64 0)) 1 (.int .i64 0)) 2 (.int .i64 0)) 3 (.int .i64 0)) 4 (.int .i64 0)).cell
        have hGF := ((((HG.out.setCell (p := ⟨b0, 0, none⟩) HB0.out (.int .i64 0)).setCell (p := ⟨b0, 1, none⟩) HB0.out (.int .i64 0)).setCell (p := ⟨b0, 2, none⟩) HB0.out (.int .i64 0)).setCell (p := ⟨b0, 3, none⟩) HB0.out (.int .i64 0)).setCell (p := ⟨b0, 4, none⟩) HB0.out (.int .i64 0)
        exact bodyPost_ret (v := .tuple #[.agg #[.int .i64 0, .int .i64 0, .int .i64 0, .int .i64 0, .int .i64 0], .int .i64 10]) (by simp [results, Tryd.results14, go_sem, hF]) rfl ⟨rfl, hGF⟩
      · simp only [if_neg h5] at hen
        obtain ⟨s, hse⟩ : ∃ s, s = shapeZ (dOp x) := ⟨_, rfl⟩
        have h5' : (s == 5) = false := by simp [hse, h5]
        unfold dOp at hse
        rw [← hse] at hsh
        clear h hs hv hx h5 hse
        go_enter Tryd.func14, Tryd.ntmps14
        go_wp2_with fail
        obtain ⟨b0, hb0⟩ : ∃ b, b = w.heap.size := ⟨_, rfl⟩
        obtain ⟨W, hW⟩ : ∃ W, W = w.alloc (Obj.cells #[.int .i64 0, .int .i64 0, .int .i64 0, .int .i64 0, .int .i64 0] 41) := ⟨_, rfl⟩
        rw [← hW, ← hb0]
        have hZ : Row W b0 (insnA 0 0 0 0 0) 41 := by rw [hW]; exact Row.new_at _ _ _ hb0
        have HG := Lib.hid (show Grows w W by rw [hW]; exact (Grows.refl _).alloc _)
        have HB0 := Lib.hid (show w.heap.size ≤ b0 by omega)
        clear hW hb0
        refine (rfield_any _ _ _ _ HX.out).mono ?_
        rintro _ w1 ⟨rfl, g1, rfl⟩
        go_wp2_with fail
        refine (rfield_any _ _ _ _ HX.out).mono ?_
        rintro _ w2 ⟨rfl, g2, rfl⟩
        obtain ⟨W1, hW1⟩ : ∃ W1, W1 = W.grow (g1.join g2) := ⟨_, rfl⟩
        rw [World.grow_grow, ← hW1]
        replace hZ : Row W1 b0 (insnA 0 0 0 0 0) 41 := by rw [hW1]; exact hZ.grows (Grows.of W _)
        replace HG := Lib.hid (show Grows w W1 by rw [hW1]; exact HG.out.grow _)
        clear hW1
        go_wp2_with fail
        obtain ⟨b1, hb1⟩ : ∃ b, b = W1.heap.size := ⟨_, rfl⟩
        obtain ⟨W2, hW2⟩ : ∃ W2, W2 = W1.alloc (Obj.cells #[.int .i64 (fieldZ x 26 6), .int .i64 (fieldZ x 22 4), .int .i64 0, .int .i64 0, .int .i64 0] 41) := ⟨_, rfl⟩
        rw [← hW2, ← hb1]
        have hn : b0 ≠ b1 := by have := hZ.lt; omega
        have hg10 := HG.out.size
        replace hZ : Row W2 b0 (insnA 0 0 0 0 0) 41 := by rw [hW2]; exact hZ.grows ((Grows.refl _).alloc _)
        
        have hX : Row W2 b1 (insnA (fieldZ x 26 6) (fieldZ x 22 4) 0 0 0) 41 := by rw [hW2]; exact Row.new_at _ _ _ hb1
        replace HG := Lib.hid (show Grows w W2 by rw [hW2]; exact HG.out.alloc _)
        have HB1 := Lib.hid (show w.heap.size ≤ b1 by have := hg10; omega)
        clear hW2 hb1 hg10
        refine (hsh _).mono ?_
        rintro _ w3 ⟨rfl, g3, rfl⟩
        obtain ⟨W3, hW3⟩ : ∃ WW, WW = World.grow W2 g3 := ⟨_, rfl⟩
        rw [← hW3]
        replace hZ : Row W3 b0 (insnA 0 0 0 0 0) 41 := by rw [hW3]; exact hZ.grows (Grows.of W2 _)
        replace hX : Row W3 b1 (insnA (fieldZ x 26 6) (fieldZ x 22 4) 0 0 0) 41 := by rw [hW3]; exact hX.grows (Grows.of W2 _)
        replace HG := Lib.hid (show Grows w W3 by rw [hW3]; exact HG.out.grow _)
        clear hW3
        go_wp2_with fail
        refine (rfield_any _ _ _ _ HX.out).mono ?_
        rintro _ w4 ⟨rfl, g4, rfl⟩
        obtain ⟨W4, hW3⟩ : ∃ WW, WW = World.grow W3 g4 := ⟨_, rfl⟩
        rw [← hW3]
        replace hZ : Row W4 b0 (insnA 0 0 0 0 0) 41 := by rw [hW3]; exact hZ.grows (Grows.of W3 _)
        replace hX : Row W4 b1 (insnA (fieldZ x 26 6) (fieldZ x 22 4) 0 0 0) 41 := by rw [hW3]; exact hX.grows (Grows.of W3 _)
        replace HG := Lib.hid (show Grows w W4 by rw [hW3]; exact HG.out.grow _)
        clear hW3
        have u0 : World.cell? W4 ⟨b1, 0, none⟩ = some (.int .i64 (fieldZ x 26 6)) := hX.cell 0
        have u1 : World.cell? W4 ⟨b1, 1, none⟩ = some (.int .i64 (fieldZ x 22 4)) := hX.cell 1
        have u2 : World.cell? W4 ⟨b1, 2, none⟩ = some (.int .i64 0) := hX.cell 2
        have u3 : World.cell? W4 ⟨b1, 3, none⟩ = some (.int .i64 0) := hX.cell 3
        have u4 : World.cell? W4 ⟨b1, 4, none⟩ = some (.int .i64 0) := hX.cell 4
        have v2 := hX.frozen 2
        have v3 := hX.frozen 3
        have v4 := hX.frozen 4
        have lx := hX.lt
        go_wp2_with fail
        obtain ⟨W5, hWs⟩ : ∃ WW, WW = World.setCell W4 ⟨b1, 2, none⟩ (.int .i64 (fieldZ x 18 4)) := ⟨_, rfl⟩
        rw [← hWs]
        replace hX : Row W5 b1 (insnA (fieldZ x 26 6) (fieldZ x 22 4) (fieldZ x 18 4) 0 0) 41 := by rw [hWs]; exact row_set hX 2 _
        replace hZ : Row W5 b0 (insnA 0 0 0 0 0) 41 := by rw [hWs]; exact row_setOther hZ (p := ⟨b1, 2, none⟩) (Ne.symm hn) _
        replace HG := Lib.hid (show Grows w W5 by rw [hWs]; exact HG.out.setCell (p := ⟨b1, 2, none⟩) HB1.out _)
        clear hWs u0 u1 u2 u3 u4 v2 v3 v4 lx
        refine (rfield_any _ _ _ _ HX.out).mono ?_
        rintro _ w4 ⟨rfl, g5, rfl⟩
        obtain ⟨W6, hW3⟩ : ∃ WW, WW = World.grow W5 g5 := ⟨_, rfl⟩
        rw [← hW3]
        replace hZ : Row W6 b0 (insnA 0 0 0 0 0) 41 := by rw [hW3]; exact hZ.grows (Grows.of W5 _)
        replace hX : Row W6 b1 (insnA (fieldZ x 26 6) (fieldZ x 22 4) (fieldZ x 18 4) 0 0) 41 := by rw [hW3]; exact hX.grows (Grows.of W5 _)
        replace HG := Lib.hid (show Grows w W6 by rw [hW3]; exact HG.out.grow _)
        clear hW3
        have u0 : World.cell? W6 ⟨b1, 0, none⟩ = some (.int .i64 (fieldZ x 26 6)) := hX.cell 0
        have u1 : World.cell? W6 ⟨b1, 1, none⟩ = some (.int .i64 (fieldZ x 22 4)) := hX.cell 1
        have u2 : World.cell? W6 ⟨b1, 2, none⟩ = some (.int .i64 (fieldZ x 18 4)) := hX.cell 2
        have u3 : World.cell? W6 ⟨b1, 3, none⟩ = some (.int .i64 0) := hX.cell 3
        have u4 : World.cell? W6 ⟨b1, 4, none⟩ = some (.int .i64 0) := hX.cell 4
        have v2 := hX.frozen 2
        have v3 := hX.frozen 3
        have v4 := hX.frozen 4
        have lx := hX.lt
        go_wp2_with fail
        obtain ⟨W7, hWs⟩ : ∃ WW, WW = World.setCell W6 ⟨b1, 3, none⟩ (.int .i64 (fieldZ x 14 4)) := ⟨_, rfl⟩
        rw [← hWs]
        replace hX : Row W7 b1 (insnA (fieldZ x 26 6) (fieldZ x 22 4) (fieldZ x 18 4) (fieldZ x 14 4) 0) 41 := by rw [hWs]; exact row_set hX 3 _
        replace hZ : Row W7 b0 (insnA 0 0 0 0 0) 41 := by rw [hWs]; exact row_setOther hZ (p := ⟨b1, 3, none⟩) (Ne.symm hn) _
        replace HG := Lib.hid (show Grows w W7 by rw [hWs]; exact HG.out.setCell (p := ⟨b1, 3, none⟩) HB1.out _)
        clear hWs u0 u1 u2 u3 u4 v2 v3 v4 lx
        refine (rfield_any _ _ _ _ HX.out).mono ?_
        rintro _ w4 ⟨rfl, g6, rfl⟩
        go_wp2_with fail
        refine (rsign_any _ _ _).mono ?_
        rintro _ w5 ⟨rfl, g7, rfl⟩
        rw [World.grow_grow]
        obtain ⟨W8, hW3⟩ : ∃ WW, WW = World.grow W7 (g6.join g7) := ⟨_, rfl⟩
        rw [← hW3]
        replace hZ : Row W8 b0 (insnA 0 0 0 0 0) 41 := by rw [hW3]; exact hZ.grows (Grows.of W7 _)
        replace hX : Row W8 b1 (insnA (fieldZ x 26 6) (fieldZ x 22 4) (fieldZ x 18 4) (fieldZ x 14 4) 0) 41 := by rw [hW3]; exact hX.grows (Grows.of W7 _)
        replace HG := Lib.hid (show Grows w W8 by rw [hW3]; exact HG.out.grow _)
        clear hW3
        have u0 : World.cell? W8 ⟨b1, 0, none⟩ = some (.int .i64 (fieldZ x 26 6)) := hX.cell 0
        have u1 : World.cell? W8 ⟨b1, 1, none⟩ = some (.int .i64 (fieldZ x 22 4)) := hX.cell 1
        have u2 : World.cell? W8 ⟨b1, 2, none⟩ = some (.int .i64 (fieldZ x 18 4)) := hX.cell 2
        have u3 : World.cell? W8 ⟨b1, 3, none⟩ = some (.int .i64 (fieldZ x 14 4)) := hX.cell 3
        have u4 : World.cell? W8 ⟨b1, 4, none⟩ = some (.int .i64 0) := hX.cell 4
        have v2 := hX.frozen 2
        have v3 := hX.frozen 3
        have v4 := hX.frozen 4
        have lx := hX.lt
        go_wp2_with fail
        obtain ⟨W9, hWs⟩ : ∃ WW, WW = World.setCell W8 ⟨b1, 4, none⟩ (.int .i64 (sgnZ (fieldZ x 0 14) 14)) := ⟨_, rfl⟩
        rw [← hWs]
        replace hX : Row W9 b1 (insnA (fieldZ x 26 6) (fieldZ x 22 4) (fieldZ x 18 4) (fieldZ x 14 4) (sgnZ (fieldZ x 0 14) 14)) 41 := by rw [hWs]; exact row_set hX 4 _
        replace hZ : Row W9 b0 (insnA 0 0 0 0 0) 41 := by rw [hWs]; exact row_setOther hZ (p := ⟨b1, 4, none⟩) (Ne.symm hn) _
        replace HG := Lib.hid (show Grows w W9 by rw [hWs]; exact HG.out.setCell (p := ⟨b1, 4, none⟩) HB1.out _)
        clear hWs u0 u1 u2 u3 u4 v2 v3 v4 lx
        refine (hen _).mono ?_
        rintro _ w6 ⟨rfl, g8, rfl⟩
        obtain ⟨Wf, hW3⟩ : ∃ WW, WW = World.grow W9 g8 := ⟨_, rfl⟩
        rw [← hW3]
        replace hZ : Row Wf b0 (insnA 0 0 0 0 0) 41 := by rw [hW3]; exact hZ.grows (Grows.of W9 _)
        replace hX : Row Wf b1 (insnA (fieldZ x 26 6) (fieldZ x 22 4) (fieldZ x 18 4) (fieldZ x 14 4) (sgnZ (fieldZ x 0 14) 14)) 41 := by rw [hW3]; exact hX.grows (Grows.of W9 _)
        replace HG := Lib.hid (show Grows w Wf by rw [hW3]; exact HG.out.grow _)
        clear hW3
        clear hX
        have z0 : World.cell? Wf ⟨b0, 0, none⟩ = some (.int .i64 0) := hZ.cell 0
        have z1 : World.cell? Wf ⟨b0, 1, none⟩ = some (.int .i64 0) := hZ.cell 1
        have z2 : World.cell? Wf ⟨b0, 2, none⟩ = some (.int .i64 0) := hZ.cell 2
        have z3 : World.cell? Wf ⟨b0, 3, none⟩ = some (.int .i64 0) := hZ.cell 3
        have z4 : World.cell? Wf ⟨b0, 4, none⟩ = some (.int .i64 0) := hZ.cell 4
        have y0 := hZ.frozen 0
        have y1 := hZ.frozen 1
        have y2 := hZ.frozen 2
        have y3 := hZ.frozen 3
        have y4 := hZ.frozen 4
        have lz := hZ.lt
        go_wp2_with fail
        have hF := (row_set (row_set (row_set (row_set (row_set hZ 0 (.int .i64 0)) 1 (.int .i64 0)) 2 (.int .i64 0)) 3 (.int .i64 0)) 4 (.int .i64 0)).cell
        have hGF := ((((HG.out.setCell (p := ⟨b0, 0, none⟩) HB0.out (.int .i64 0)).setCell (p := ⟨b0, 1, none⟩) HB0.out (.int .i64 0)).setCell (p := ⟨b0, 2, none⟩) HB0.out (.int .i64 0)).setCell (p := ⟨b0, 3, none⟩) HB0.out (.int .i64 0)).setCell (p := ⟨b0, 4, none⟩) HB0.out (.int .i64 0)
        exact bodyPost_ret (v := .tuple #[.agg #[.int .i64 0, .int .i64 0, .int .i64 0, .int .i64 0, .int .i64 0], .int .i64 10]) (by simp [results, Tryd.results14, go_sem, hF]) rfl ⟨rfl, hGF⟩
    · have hen := fun w => rencode_yes hv w
      have hne : (encW (dOp x) (dRd x) (dR1 x) (dR2 x) (dV x) != x) = true := by
        unfold decB at h
        rw [hv, Bool.true_and] at h
        simpa using h
      obtain ⟨Q, hQ⟩ : ∃ Q, Q = encW (dOp x) (dRd x) (dR1 x) (dR2 x) (dV x) := ⟨_, rfl⟩
      rw [show encW (dOp x) (dRd x) (dR1 x) (dR2 x) (dV x) = Q from hQ.symm] at hen
      rw [← hQ] at hne
      unfold dR1 dR2 dV at hen
      have HX := Lib.hid hx
      by_cases h5 : shapeZ (dOp x) = 5
      · simp only [if_pos h5] at hen
        unfold dOp at h5
        rw [h5] at hsh
        clear h hs hv hx h5 hQ
        go_enter Tryd.func14, Tryd.ntmps14
        go_wp2_with fail
        obtain ⟨b0, hb0⟩ : ∃ b, b = w.heap.size := ⟨_, rfl⟩
        obtain ⟨W, hW⟩ : ∃ W, W = w.alloc (Obj.cells #[.int .i64 0, .int .i64 0, .int .i64 0, .int .i64 0, .int .i64 0] 41) := ⟨_, rfl⟩
        rw [← hW, ← hb0]
        have hZ : Row W b0 (insnA 0 0 0 0 0) 41 := by rw [hW]; exact Row.new_at _ _ _ hb0
        have HG := Lib.hid (show Grows w W by rw [hW]; exact (Grows.refl _).alloc _)
        have HB0 := Lib.hid (show w.heap.size ≤ b0 by omega)
        clear hW hb0
        refine (rfield_any _ _ _ _ HX.out).mono ?_
        rintro _ w1 ⟨rfl, g1, rfl⟩
        go_wp2_with fail
        refine (rfield_any _ _ _ _ HX.out).mono ?_
        rintro _ w2 ⟨rfl, g2, rfl⟩
        obtain ⟨W1, hW1⟩ : ∃ W1, W1 = W.grow (g1.join g2) := ⟨_, rfl⟩
        rw [World.grow_grow, ← hW1]
        replace hZ : Row W1 b0 (insnA 0 0 0 0 0) 41 := by rw [hW1]; exact hZ.grows (Grows.of W _)
        replace HG := Lib.hid (show Grows w W1 by rw [hW1]; exact HG.out.grow _)
        clear hW1
        go_wp2_with fail
        obtain ⟨b1, hb1⟩ : ∃ b, b = W1.heap.size := ⟨_, rfl⟩
        obtain ⟨W2, hW2⟩ : ∃ W2, W2 = W1.alloc (Obj.cells #[.int .i64 (fieldZ x 26 6), .int .i64 (fieldZ x 22 4), .int .i64 0, .int .i64 0, .int .i64 0] 41) := ⟨_, rfl⟩
        rw [← hW2, ← hb1]
        have hn : b0 ≠ b1 := by have := hZ.lt; omega
        have hg10 := HG.out.size
        replace hZ : Row W2 b0 (insnA 0 0 0 0 0) 41 := by rw [hW2]; exact hZ.grows ((Grows.refl _).alloc _)
        
        have hX : Row W2 b1 (insnA (fieldZ x 26 6) (fieldZ x 22 4) 0 0 0) 41 := by rw [hW2]; exact Row.new_at _ _ _ hb1
        replace HG := Lib.hid (show Grows w W2 by rw [hW2]; exact HG.out.alloc _)
        have HB1 := Lib.hid (show w.heap.size ≤ b1 by have := hg10; omega)
        clear hW2 hb1 hg10
        refine (hsh _).mono ?_
        rintro _ w3 ⟨rfl, g3, rfl⟩
        obtain ⟨W3, hW3⟩ : ∃ WW, WW = World.grow W2 g3 := ⟨_, rfl⟩
        rw [← hW3]
        replace hZ : Row W3 b0 (insnA 0 0 0 0 0) 41 := by rw [hW3]; exact hZ.grows (Grows.of W2 _)
        replace hX : Row W3 b1 (insnA (fieldZ x 26 6) (fieldZ x 22 4) 0 0 0) 41 := by rw [hW3]; exact hX.grows (Grows.of W2 _)
        replace HG := Lib.hid (show Grows w W3 by rw [hW3]; exact HG.out.grow _)
        clear hW3
        go_wp2_with fail
        refine (rfield_any _ _ _ _ HX.out).mono ?_
        rintro _ w4 ⟨rfl, g4, rfl⟩
        go_wp2_with fail
        refine (rsign_any _ _ _).mono ?_
        rintro _ w5 ⟨rfl, g5, rfl⟩
        rw [World.grow_grow]
        obtain ⟨W4, hW3⟩ : ∃ WW, WW = World.grow W3 (g4.join g5) := ⟨_, rfl⟩
        rw [← hW3]
        replace hZ : Row W4 b0 (insnA 0 0 0 0 0) 41 := by rw [hW3]; exact hZ.grows (Grows.of W3 _)
        replace hX : Row W4 b1 (insnA (fieldZ x 26 6) (fieldZ x 22 4) 0 0 0) 41 := by rw [hW3]; exact hX.grows (Grows.of W3 _)
        replace HG := Lib.hid (show Grows w W4 by rw [hW3]; exact HG.out.grow _)
        clear hW3
        have u0 : World.cell? W4 ⟨b1, 0, none⟩ = some (.int .i64 (fieldZ x 26 6)) := hX.cell 0
        have u1 : World.cell? W4 ⟨b1, 1, none⟩ = some (.int .i64 (fieldZ x 22 4)) := hX.cell 1
        have u2 : World.cell? W4 ⟨b1, 2, none⟩ = some (.int .i64 0) := hX.cell 2
        have u3 : World.cell? W4 ⟨b1, 3, none⟩ = some (.int .i64 0) := hX.cell 3
        have u4 : World.cell? W4 ⟨b1, 4, none⟩ = some (.int .i64 0) := hX.cell 4
        have v2 := hX.frozen 2
        have v3 := hX.frozen 3
        have v4 := hX.frozen 4
        have lx := hX.lt
        go_wp2_with fail
        obtain ⟨W5, hW5⟩ : ∃ W5, W5 = W4.setCell ⟨b1, 4, none⟩ (.int .i64 (sgnZ (fieldZ x 0 18) 18)) := ⟨_, rfl⟩
        rw [← hW5]
        replace hX : Row W5 b1 (insnA (fieldZ x 26 6) (fieldZ x 22 4) 0 0 (sgnZ (fieldZ x 0 18) 18)) 41 := by rw [hW5]; exact row_set hX 4 _
        replace hZ : Row W5 b0 (insnA 0 0 0 0 0) 41 := by rw [hW5]; exact row_setOther hZ (p := ⟨b1, 4, none⟩) (Ne.symm hn) _
        replace HG := Lib.hid (show Grows w W5 by rw [hW5]; exact HG.out.setCell (p := ⟨b1, 4, none⟩) HB1.out _)
        clear hW5 u0 u1 u2 u3 u4 v2 v3 v4 lx
        refine (hen _).mono ?_
        rintro _ w6 ⟨rfl, g6, rfl⟩
        obtain ⟨W6, hW3⟩ : ∃ WW, WW = World.grow W5 g6 := ⟨_, rfl⟩
        rw [← hW3]
        replace hZ : Row W6 b0 (insnA 0 0 0 0 0) 41 := by rw [hW3]; exact hZ.grows (Grows.of W5 _)
        replace hX : Row W6 b1 (insnA (fieldZ x 26 6) (fieldZ x 22 4) 0 0 (sgnZ (fieldZ x 0 18) 18)) 41 := by rw [hW3]; exact hX.grows (Grows.of W5 _)
        replace HG := Lib.hid (show Grows w W6 by rw [hW3]; exact HG.out.grow _)
        clear hW3
        clear hX
        have z0 : World.cell? W6 ⟨b0, 0, none⟩ = some (.int .i64 0) := hZ.cell 0
        have z1 : World.cell? W6 ⟨b0, 1, none⟩ = some (.int .i64 0) := hZ.cell 1
        have z2 : World.cell? W6 ⟨b0, 2, none⟩ = some (.int .i64 0) := hZ.cell 2
        have z3 : World.cell? W6 ⟨b0, 3, none⟩ = some (.int .i64 0) := hZ.cell 3
        have z4 : World.cell? W6 ⟨b0, 4, none⟩ = some (.int .i64 0) := hZ.cell 4
        have y0 := hZ.frozen 0
        have y1 := hZ.frozen 1
        have y2 := hZ.frozen 2
        have y3 := hZ.frozen 3
        have y4 := hZ.frozen 4
        have lz := hZ.lt
        go_wp2_with fail
        have hF := (row_set (row_set (row_set (row_set (row_set hZ 0 (.int .i64 0)) 1 (.int .i64 0)) 2 (.int .i64 0)) 3 (.int .i64 0)) 4 (.int .i64 0)).cell
        have hGF := ((((HG.out.setCell (p := ⟨b0, 0, none⟩) HB0.out (.int .i64 0)).setCell (p := ⟨b0, 1, none⟩) HB0.out (.int .i64 0)).setCell (p := ⟨b0, 2, none⟩) HB0.out (.int .i64 0)).setCell (p := ⟨b0, 3, none⟩) HB0.out (.int .i64 0)).setCell (p := ⟨b0, 4, none⟩) HB0.out (.int .i64 0)
        exact bodyPost_ret (v := .tuple #[.agg #[.int .i64 0, .int .i64 0, .int .i64 0, .int .i64 0, .int .i64 0], .int .i64 10]) (by simp [results, Tryd.results14, go_sem, hF]) rfl ⟨rfl, hGF⟩
      · simp only [if_neg h5] at hen
        obtain ⟨s, hse⟩ : ∃ s, s = shapeZ (dOp x) := ⟨_, rfl⟩
        have h5' : (s == 5) = false := by simp [hse, h5]
        unfold dOp at hse
        rw [← hse] at hsh
        clear h hs hv hx h5 hse hQ
        go_enter Tryd.func14, Tryd.ntmps14
        go_wp2_with fail
        obtain ⟨b0, hb0⟩ : ∃ b, b = w.heap.size := ⟨_, rfl⟩
        obtain ⟨W, hW⟩ : ∃ W, W = w.alloc (Obj.cells #[.int .i64 0, .int .i64 0, .int .i64 0, .int .i64 0, .int .i64 0] 41) := ⟨_, rfl⟩
        rw [← hW, ← hb0]
        have hZ : Row W b0 (insnA 0 0 0 0 0) 41 := by rw [hW]; exact Row.new_at _ _ _ hb0
        have HG := Lib.hid (show Grows w W by rw [hW]; exact (Grows.refl _).alloc _)
        have HB0 := Lib.hid (show w.heap.size ≤ b0 by omega)
        clear hW hb0
        refine (rfield_any _ _ _ _ HX.out).mono ?_
        rintro _ w1 ⟨rfl, g1, rfl⟩
        go_wp2_with fail
        refine (rfield_any _ _ _ _ HX.out).mono ?_
        rintro _ w2 ⟨rfl, g2, rfl⟩
        obtain ⟨W1, hW1⟩ : ∃ W1, W1 = W.grow (g1.join g2) := ⟨_, rfl⟩
        rw [World.grow_grow, ← hW1]
        replace hZ : Row W1 b0 (insnA 0 0 0 0 0) 41 := by rw [hW1]; exact hZ.grows (Grows.of W _)
        replace HG := Lib.hid (show Grows w W1 by rw [hW1]; exact HG.out.grow _)
        clear hW1
        go_wp2_with fail
        obtain ⟨b1, hb1⟩ : ∃ b, b = W1.heap.size := ⟨_, rfl⟩
        obtain ⟨W2, hW2⟩ : ∃ W2, W2 = W1.alloc (Obj.cells #[.int .i64 (fieldZ x 26 6), .int .i64 (fieldZ x 22 4), .int .i64 0, .int .i64 0, .int .i64 0] 41) := ⟨_, rfl⟩
        rw [← hW2, ← hb1]
        have hn : b0 ≠ b1 := by have := hZ.lt; omega
        have hg10 := HG.out.size
        replace hZ : Row W2 b0 (insnA 0 0 0 0 0) 41 := by rw [hW2]; exact hZ.grows ((Grows.refl _).alloc _)
        
        have hX : Row W2 b1 (insnA (fieldZ x 26 6) (fieldZ x 22 4) 0 0 0) 41 := by rw [hW2]; exact Row.new_at _ _ _ hb1
        replace HG := Lib.hid (show Grows w W2 by rw [hW2]; exact HG.out.alloc _)
        have HB1 := Lib.hid (show w.heap.size ≤ b1 by have := hg10; omega)
        clear hW2 hb1 hg10
        refine (hsh _).mono ?_
        rintro _ w3 ⟨rfl, g3, rfl⟩
        obtain ⟨W3, hW3⟩ : ∃ WW, WW = World.grow W2 g3 := ⟨_, rfl⟩
        rw [← hW3]
        replace hZ : Row W3 b0 (insnA 0 0 0 0 0) 41 := by rw [hW3]; exact hZ.grows (Grows.of W2 _)
        replace hX : Row W3 b1 (insnA (fieldZ x 26 6) (fieldZ x 22 4) 0 0 0) 41 := by rw [hW3]; exact hX.grows (Grows.of W2 _)
        replace HG := Lib.hid (show Grows w W3 by rw [hW3]; exact HG.out.grow _)
        clear hW3
        go_wp2_with fail
        refine (rfield_any _ _ _ _ HX.out).mono ?_
        rintro _ w4 ⟨rfl, g4, rfl⟩
        obtain ⟨W4, hW3⟩ : ∃ WW, WW = World.grow W3 g4 := ⟨_, rfl⟩
        rw [← hW3]
        replace hZ : Row W4 b0 (insnA 0 0 0 0 0) 41 := by rw [hW3]; exact hZ.grows (Grows.of W3 _)
        replace hX : Row W4 b1 (insnA (fieldZ x 26 6) (fieldZ x 22 4) 0 0 0) 41 := by rw [hW3]; exact hX.grows (Grows.of W3 _)
        replace HG := Lib.hid (show Grows w W4 by rw [hW3]; exact HG.out.grow _)
        clear hW3
        have u0 : World.cell? W4 ⟨b1, 0, none⟩ = some (.int .i64 (fieldZ x 26 6)) := hX.cell 0
        have u1 : World.cell? W4 ⟨b1, 1, none⟩ = some (.int .i64 (fieldZ x 22 4)) := hX.cell 1
        have u2 : World.cell? W4 ⟨b1, 2, none⟩ = some (.int .i64 0) := hX.cell 2
        have u3 : World.cell? W4 ⟨b1, 3, none⟩ = some (.int .i64 0) := hX.cell 3
        have u4 : World.cell? W4 ⟨b1, 4, none⟩ = some (.int .i64 0) := hX.cell 4
        have v2 := hX.frozen 2
        have v3 := hX.frozen 3
        have v4 := hX.frozen 4
        have lx := hX.lt
        go_wp2_with fail
        obtain ⟨W5, hWs⟩ : ∃ WW, WW = World.setCell W4 ⟨b1, 2, none⟩ (.int .i64 (fieldZ x 18 4)) := ⟨_, rfl⟩
        rw [← hWs]
        replace hX : Row W5 b1 (insnA (fieldZ x 26 6) (fieldZ x 22 4) (fieldZ x 18 4) 0 0) 41 := by rw [hWs]; exact row_set hX 2 _
        replace hZ : Row W5 b0 (insnA 0 0 0 0 0) 41 := by rw [hWs]; exact row_setOther hZ (p := ⟨b1, 2, none⟩) (Ne.symm hn) _
        replace HG := Lib.hid (show Grows w W5 by rw [hWs]; exact HG.out.setCell (p := ⟨b1, 2, none⟩) HB1.out _)
        clear hWs u0 u1 u2 u3 u4 v2 v3 v4 lx
        refine (rfield_any _ _ _ _ HX.out).mono ?_
        rintro _ w4 ⟨rfl, g5, rfl⟩
        obtain ⟨W6, hW3⟩ : ∃ WW, WW = World.grow W5 g5 := ⟨_, rfl⟩
        rw [← hW3]
        replace hZ : Row W6 b0 (insnA 0 0 0 0 0) 41 := by rw [hW3]; exact hZ.grows (Grows.of W5 _)
        replace hX : Row W6 b1 (insnA (fieldZ x 26 6) (fieldZ x 22 4) (fieldZ x 18 4) 0 0) 41 := by rw [hW3]; exact hX.grows (Grows.of W5 _)
        replace HG := Lib.hid (show Grows w W6 by rw [hW3]; exact HG.out.grow _)
        clear hW3
        have u0 : World.cell? W6 ⟨b1, 0, none⟩ = some (.int .i64 (fieldZ x 26 6)) := hX.cell 0
        have u1 : World.cell? W6 ⟨b1, 1, none⟩ = some (.int .i64 (fieldZ x 22 4)) := hX.cell 1
        have u2 : World.cell? W6 ⟨b1, 2, none⟩ = some (.int .i64 (fieldZ x 18 4)) := hX.cell 2
        have u3 : World.cell? W6 ⟨b1, 3, none⟩ = some (.int .i64 0) := hX.cell 3
        have u4 : World.cell? W6 ⟨b1, 4, none⟩ = some (.int .i64 0) := hX.cell 4
        have v2 := hX.frozen 2
        have v3 := hX.frozen 3
        have v4 := hX.frozen 4
        have lx := hX.lt
        go_wp2_with fail
        obtain ⟨W7, hWs⟩ : ∃ WW, WW = World.setCell W6 ⟨b1, 3, none⟩ (.int .i64 (fieldZ x 14 4)) := ⟨_, rfl⟩
        rw [← hWs]
        replace hX : Row W7 b1 (insnA (fieldZ x 26 6) (fieldZ x 22 4) (fieldZ x 18 4) (fieldZ x 14 4) 0) 41 := by rw [hWs]; exact row_set hX 3 _
        replace hZ : Row W7 b0 (insnA 0 0 0 0 0) 41 := by rw [hWs]; exact row_setOther hZ (p := ⟨b1, 3, none⟩) (Ne.symm hn) _
        replace HG := Lib.hid (show Grows w W7 by rw [hWs]; exact HG.out.setCell (p := ⟨b1, 3, none⟩) HB1.out _)
        clear hWs u0 u1 u2 u3 u4 v2 v3 v4 lx
        refine (rfield_any _ _ _ _ HX.out).mono ?_
        rintro _ w4 ⟨rfl, g6, rfl⟩
        go_wp2_with fail
        refine (rsign_any _ _ _).mono ?_
        rintro _ w5 ⟨rfl, g7, rfl⟩
        rw [World.grow_grow]
        obtain ⟨W8, hW3⟩ : ∃ WW, WW = World.grow W7 (g6.join g7) := ⟨_, rfl⟩
        rw [← hW3]
        replace hZ : Row W8 b0 (insnA 0 0 0 0 0) 41 := by rw [hW3]; exact hZ.grows (Grows.of W7 _)
        replace hX : Row W8 b1 (insnA (fieldZ x 26 6) (fieldZ x 22 4) (fieldZ x 18 4) (fieldZ x 14 4) 0) 41 := by rw [hW3]; exact hX.grows (Grows.of W7 _)
        replace HG := Lib.hid (show Grows w W8 by rw [hW3]; exact HG.out.grow _)
        clear hW3
        have u0 : World.cell? W8 ⟨b1, 0, none⟩ = some (.int .i64 (fieldZ x 26 6)) := hX.cell 0
        have u1 : World.cell? W8 ⟨b1, 1, none⟩ = some (.int .i64 (fieldZ x 22 4)) := hX.cell 1
        have u2 : World.cell? W8 ⟨b1, 2, none⟩ = some (.int .i64 (fieldZ x 18 4)) := hX.cell 2
        have u3 : World.cell? W8 ⟨b1, 3, none⟩ = some (.int .i64 (fieldZ x 14 4)) := hX.cell 3
        have u4 : World.cell? W8 ⟨b1, 4, none⟩ = some (.int .i64 0) := hX.cell 4
        have v2 := hX.frozen 2
        have v3 := hX.frozen 3
        have v4 := hX.frozen 4
        have lx := hX.lt
        go_wp2_with fail
        obtain ⟨W9, hWs⟩ : ∃ WW, WW = World.setCell W8 ⟨b1, 4, none⟩ (.int .i64 (sgnZ (fieldZ x 0 14) 14)) := ⟨_, rfl⟩
        rw [← hWs]
        replace hX : Row W9 b1 (insnA (fieldZ x 26 6) (fieldZ x 22 4) (fieldZ x 18 4) (fieldZ x 14 4) (sgnZ (fieldZ x 0 14) 14)) 41 := by rw [hWs]; exact row_set hX 4 _
        replace hZ : Row W9 b0 (insnA 0 0 0 0 0) 41 := by rw [hWs]; exact row_setOther hZ (p := ⟨b1, 4, none⟩) (Ne.symm hn) _
        replace HG := Lib.hid (show Grows w W9 by rw [hWs]; exact HG.out.setCell (p := ⟨b1, 4, none⟩) HB1.out _)
        clear hWs u0 u1 u2 u3 u4 v2 v3 v4 lx
        refine (hen _).mono ?_
        rintro _ w6 ⟨rfl, g8, rfl⟩
        obtain ⟨Wf, hW3⟩ : ∃ WW, WW = World.grow W9 g8 := ⟨_, rfl⟩
        rw [← hW3]
        replace hZ : Row Wf b0 (insnA 0 0 0 0 0) 41 := by rw [hW3]; exact hZ.grows (Grows.of W9 _)
        replace hX : Row Wf b1 (insnA (fieldZ x 26 6) (fieldZ x 22 4) (fieldZ x 18 4) (fieldZ x 14 4) (sgnZ (fieldZ x 0 14) 14)) 41 := by rw [hW3]; exact hX.grows (Grows.of W9 _)
        replace HG := Lib.hid (show Grows w Wf by rw [hW3]; exact HG.out.grow _)
        clear hW3
        clear hX
        have z0 : World.cell? Wf ⟨b0, 0, none⟩ = some (.int .i64 0) := hZ.cell 0
        have z1 : World.cell? Wf ⟨b0, 1, none⟩ = some (.int .i64 0) := hZ.cell 1
        have z2 : World.cell? Wf ⟨b0, 2, none⟩ = some (.int .i64 0) := hZ.cell 2
        have z3 : World.cell? Wf ⟨b0, 3, none⟩ = some (.int .i64 0) := hZ.cell 3
        have z4 : World.cell? Wf ⟨b0, 4, none⟩ = some (.int .i64 0) := hZ.cell 4
        have y0 := hZ.frozen 0
        have y1 := hZ.frozen 1
        have y2 := hZ.frozen 2
        have y3 := hZ.frozen 3
        have y4 := hZ.frozen 4
        have lz := hZ.lt
        go_wp2_with fail
        have hF := (row_set (row_set (row_set (row_set (row_set hZ 0 (.int .i64 0)) 1 (.int .i64 0)) 2 (.int .i64 0)) 3 (.int .i64 0)) 4 (.int .i64 0)).cell
        have hGF := ((((HG.out.setCell (p := ⟨b0, 0, none⟩) HB0.out (.int .i64 0)).setCell (p := ⟨b0, 1, none⟩) HB0.out (.int .i64 0)).setCell (p := ⟨b0, 2, none⟩) HB0.out (.int .i64 0)).setCell (p := ⟨b0, 3, none⟩) HB0.out (.int .i64 0)).setCell (p := ⟨b0, 4, none⟩) HB0.out (.int .i64 0)
        exact bodyPost_ret (v := .tuple #[.agg #[.int .i64 0, .int .i64 0, .int .i64 0, .int .i64 0, .int .i64 0], .int .i64 10]) (by simp [results, Tryd.results14, go_sem, hF]) rfl ⟨rfl, hGF⟩
set_option maxRecDepth 100000 in
set_option maxHeartbeats 4000000 in
theorem rdecode_yes {x : Int} (hx : 0 ≤ x ∧ x < 4294967296) (h : decB x = true) (w : World) :
    Calls Tryd.prog 14 #[.int .u32 x] w fun r w' => r = .returned (.tuple #[.agg #[.int .i64 (dOp x), .int .i64 (dRd x), .int .i64 (dR1 x), .int .i64 (dR2 x), .int .i64 (dV x)], .int .i64 0]) ∧ Grows w w' := by
  have hv : validB (dOp x) (dRd x) (dR1 x) (dR2 x) (dV x) = true := by
    unfold decB at h; rw [Bool.and_eq_true] at h; exact h.1
  have he : encW (dOp x) (dRd x) (dR1 x) (dR2 x) (dV x) = x := by
    unfold decB at h; rw [Bool.and_eq_true] at h; simpa using h.2
  have hs : True := trivial
  have hsh := fun w => rshape_any (fieldZ x 26 6) w
  have hen := fun w => rencode_yes hv w
  rw [show encW (dOp x) (dRd x) (dR1 x) (dR2 x) (dV x) = x from he] at hen
  unfold dR1 dR2 dV at hen
  have HX := Lib.hid hx
  by_cases h5 : shapeZ (dOp x) = 5
  · simp only [if_pos h5] at hen
    unfold dR1 dR2 dV
    rw [if_pos h5, if_pos h5, if_pos h5]
    unfold dOp dRd
    unfold dOp at h5
    rw [h5] at hsh
    clear h hs hv hx h5 he
    go_enter Tryd.func14, Tryd.ntmps14
    go_wp2_with fail
    obtain ⟨b0, hb0⟩ : ∃ b, b = w.heap.size := ⟨_, rfl⟩
    obtain ⟨W, hW⟩ : ∃ W, W = w.alloc (Obj.cells #[.int .i64 0, .int .i64 0, .int .i64 0, .int .i64 0, .int .i64 0] 41) := ⟨_, rfl⟩
    rw [← hW, ← hb0]
    have hZ : Row W b0 (insnA 0 0 0 0 0) 41 := by rw [hW]; exact Row.new_at _ _ _ hb0
    have HG := Lib.hid (show Grows w W by rw [hW]; exact (Grows.refl _).alloc _)
    have HB0 := Lib.hid (show w.heap.size ≤ b0 by omega)
    clear hW hb0
    refine (rfield_any _ _ _ _ HX.out).mono ?_
    rintro _ w1 ⟨rfl, g1, rfl⟩
    go_wp2_with fail
    refine (rfield_any _ _ _ _ HX.out).mono ?_
    rintro _ w2 ⟨rfl, g2, rfl⟩
    obtain ⟨W1, hW1⟩ : ∃ W1, W1 = W.grow (g1.join g2) := ⟨_, rfl⟩
    rw [World.grow_grow, ← hW1]
    replace hZ : Row W1 b0 (insnA 0 0 0 0 0) 41 := by rw [hW1]; exact hZ.grows (Grows.of W _)
    replace HG := Lib.hid (show Grows w W1 by rw [hW1]; exact HG.out.grow _)
    clear hW1
    go_wp2_with fail
    obtain ⟨b1, hb1⟩ : ∃ b, b = W1.heap.size := ⟨_, rfl⟩
    obtain ⟨W2, hW2⟩ : ∃ W2, W2 = W1.alloc (Obj.cells #[.int .i64 (fieldZ x 26 6), .int .i64 (fieldZ x 22 4), .int .i64 0, .int .i64 0, .int .i64 0] 41) := ⟨_, rfl⟩
    rw [← hW2, ← hb1]
    have hn : b0 ≠ b1 := by have := hZ.lt; omega
    have hg10 := HG.out.size
    replace hZ : Row W2 b0 (insnA 0 0 0 0 0) 41 := by rw [hW2]; exact hZ.grows ((Grows.refl _).alloc _)
    
    have hX : Row W2 b1 (insnA (fieldZ x 26 6) (fieldZ x 22 4) 0 0 0) 41 := by rw [hW2]; exact Row.new_at _ _ _ hb1
    replace HG := Lib.hid (show Grows w W2 by rw [hW2]; exact HG.out.alloc _)
    have HB1 := Lib.hid (show w.heap.size ≤ b1 by have := hg10; omega)
    clear hW2 hb1 hg10
    refine (hsh _).mono ?_
    rintro _ w3 ⟨rfl, g3, rfl⟩
    obtain ⟨W3, hW3⟩ : ∃ WW, WW = World.grow W2 g3 := ⟨_, rfl⟩
    rw [← hW3]
    replace hZ : Row W3 b0 (insnA 0 0 0 0 0) 41 := by rw [hW3]; exact hZ.grows (Grows.of W2 _)
    replace hX : Row W3 b1 (insnA (fieldZ x 26 6) (fieldZ x 22 4) 0 0 0) 41 := by rw [hW3]; exact hX.grows (Grows.of W2 _)
    replace HG := Lib.hid (show Grows w W3 by rw [hW3]; exact HG.out.grow _)
    clear hW3
    go_wp2_with fail
    refine (rfield_any _ _ _ _ HX.out).mono ?_
    rintro _ w4 ⟨rfl, g4, rfl⟩
    go_wp2_with fail
    refine (rsign_any _ _ _).mono ?_
    rintro _ w5 ⟨rfl, g5, rfl⟩
    rw [World.grow_grow]
    obtain ⟨W4, hW3⟩ : ∃ WW, WW = World.grow W3 (g4.join g5) := ⟨_, rfl⟩
    rw [← hW3]
    replace hZ : Row W4 b0 (insnA 0 0 0 0 0) 41 := by rw [hW3]; exact hZ.grows (Grows.of W3 _)
    replace hX : Row W4 b1 (insnA (fieldZ x 26 6) (fieldZ x 22 4) 0 0 0) 41 := by rw [hW3]; exact hX.grows (Grows.of W3 _)
    replace HG := Lib.hid (show Grows w W4 by rw [hW3]; exact HG.out.grow _)
    clear hW3
    have u0 : World.cell? W4 ⟨b1, 0, none⟩ = some (.int .i64 (fieldZ x 26 6)) := hX.cell 0
    have u1 : World.cell? W4 ⟨b1, 1, none⟩ = some (.int .i64 (fieldZ x 22 4)) := hX.cell 1
    have u2 : World.cell? W4 ⟨b1, 2, none⟩ = some (.int .i64 0) := hX.cell 2
    have u3 : World.cell? W4 ⟨b1, 3, none⟩ = some (.int .i64 0) := hX.cell 3
    have u4 : World.cell? W4 ⟨b1, 4, none⟩ = some (.int .i64 0) := hX.cell 4
    have v2 := hX.frozen 2
    have v3 := hX.frozen 3
    have v4 := hX.frozen 4
    have lx := hX.lt
    go_wp2_with fail
    obtain ⟨W5, hW5⟩ : ∃ W5, W5 = W4.setCell ⟨b1, 4, none⟩ (.int .i64 (sgnZ (fieldZ x 0 18) 18)) := ⟨_, rfl⟩
    rw [← hW5]
    replace hX : Row W5 b1 (insnA (fieldZ x 26 6) (fieldZ x 22 4) 0 0 (sgnZ (fieldZ x 0 18) 18)) 41 := by rw [hW5]; exact row_set hX 4 _
    replace hZ : Row W5 b0 (insnA 0 0 0 0 0) 41 := by rw [hW5]; exact row_setOther hZ (p := ⟨b1, 4, none⟩) (Ne.symm hn) _
    replace HG := Lib.hid (show Grows w W5 by rw [hW5]; exact HG.out.setCell (p := ⟨b1, 4, none⟩) HB1.out _)
    clear hW5 u0 u1 u2 u3 u4 v2 v3 v4 lx
    refine (hen _).mono ?_
    rintro _ w6 ⟨rfl, g6, rfl⟩
    obtain ⟨W6, hW3⟩ : ∃ WW, WW = World.grow W5 g6 := ⟨_, rfl⟩
    rw [← hW3]
    replace hZ : Row W6 b0 (insnA 0 0 0 0 0) 41 := by rw [hW3]; exact hZ.grows (Grows.of W5 _)
    replace hX : Row W6 b1 (insnA (fieldZ x 26 6) (fieldZ x 22 4) 0 0 (sgnZ (fieldZ x 0 18) 18)) 41 := by rw [hW3]; exact hX.grows (Grows.of W5 _)
    replace HG := Lib.hid (show Grows w W6 by rw [hW3]; exact HG.out.grow _)
    clear hW3
    have z0 : World.cell? W6 ⟨b0, 0, none⟩ = some (.int .i64 0) := hZ.cell 0
    have z1 : World.cell? W6 ⟨b0, 1, none⟩ = some (.int .i64 0) := hZ.cell 1
    have z2 : World.cell? W6 ⟨b0, 2, none⟩ = some (.int .i64 0) := hZ.cell 2
    have z3 : World.cell? W6 ⟨b0, 3, none⟩ = some (.int .i64 0) := hZ.cell 3
    have z4 : World.cell? W6 ⟨b0, 4, none⟩ = some (.int .i64 0) := hZ.cell 4
    have y0 := hZ.frozen 0
    have y1 := hZ.frozen 1
    have y2 := hZ.frozen 2
    have y3 := hZ.frozen 3
    have y4 := hZ.frozen 4
    have lz := hZ.lt
    have u0 : World.cell? W6 ⟨b1, 0, none⟩ = some (.int .i64 (fieldZ x 26 6)) := hX.cell 0
    have u1 : World.cell? W6 ⟨b1, 1, none⟩ = some (.int .i64 (fieldZ x 22 4)) := hX.cell 1
    have u2 : World.cell? W6 ⟨b1, 2, none⟩ = some (.int .i64 0) := hX.cell 2
    have u3 : World.cell? W6 ⟨b1, 3, none⟩ = some (.int .i64 0) := hX.cell 3
    have u4 : World.cell? W6 ⟨b1, 4, none⟩ = some (.int .i64 (sgnZ (fieldZ x 0 18) 18)) := hX.cell 4
    have v2 := hX.frozen 2
    have v3 := hX.frozen 3
    have v4 := hX.frozen 4
    have lx := hX.lt
    go_wp2_with fail
    have hF := (row_set (row_set (row_set (row_set (row_set hZ 0 (.int .i64 (fieldZ x 26 6))) 1 (.int .i64 (fieldZ x 22 4))) 2 (.int .i64 0)) 3 (.int .i64 0)) 4 (.int .i64 (sgnZ (fieldZ x 0 18) 18))).cell
    have hGF := ((((HG.out.setCell (p := ⟨b0, 0, none⟩) HB0.out (.int .i64 (fieldZ x 26 6))).setCell (p := ⟨b0, 1, none⟩) HB0.out (.int .i64 (fieldZ x 22 4))).setCell (p := ⟨b0, 2, none⟩) HB0.out (.int .i64 0)).setCell (p := ⟨b0, 3, none⟩) HB0.out (.int .i64 0)).setCell (p := ⟨b0, 4, none⟩) HB0.out (.int .i64 (sgnZ (fieldZ x 0 18) 18))
    exact bodyPost_ret (v := .tuple #[.agg #[.int .i64 (fieldZ x 26 6), .int .i64 (fieldZ x 22 4), .int .i64 0, .int .i64 0, .int .i64 (sgnZ (fieldZ x 0 18) 18)], .int .i64 0]) (by simp [results, Tryd.results14, go_sem, hF]) rfl ⟨rfl, hGF⟩
  · simp only [if_neg h5] at hen
    unfold dR1 dR2 dV
    rw [if_neg h5, if_neg h5, if_neg h5]
    unfold dOp dRd
    obtain ⟨s, hse⟩ : ∃ s, s = shapeZ (dOp x) := ⟨_, rfl⟩
    have h5' : (s == 5) = false := by simp [hse, h5]
    unfold dOp at hse
    rw [← hse] at hsh
    clear h hs hv hx h5 hse he
    go_enter Tryd.func14, Tryd.ntmps14
    go_wp2_with fail
    obtain ⟨b0, hb0⟩ : ∃ b, b = w.heap.size := ⟨_, rfl⟩
    obtain ⟨W, hW⟩ : ∃ W, W = w.alloc (Obj.cells #[.int .i64 0, .int .i64 0, .int .i64 0, .int .i64 0, .int .i64 0] 41) := ⟨_, rfl⟩
    rw [← hW, ← hb0]
    have hZ : Row W b0 (insnA 0 0 0 0 0) 41 := by rw [hW]; exact Row.new_at _ _ _ hb0
    have HG := Lib.hid (show Grows w W by rw [hW]; exact (Grows.refl _).alloc _)
    have HB0 := Lib.hid (show w.heap.size ≤ b0 by omega)
    clear hW hb0
    refine (rfield_any _ _ _ _ HX.out).mono ?_
    rintro _ w1 ⟨rfl, g1, rfl⟩
    go_wp2_with fail
    refine (rfield_any _ _ _ _ HX.out).mono ?_
    rintro _ w2 ⟨rfl, g2, rfl⟩
    obtain ⟨W1, hW1⟩ : ∃ W1, W1 = W.grow (g1.join g2) := ⟨_, rfl⟩
    rw [World.grow_grow, ← hW1]
    replace hZ : Row W1 b0 (insnA 0 0 0 0 0) 41 := by rw [hW1]; exact hZ.grows (Grows.of W _)
    replace HG := Lib.hid (show Grows w W1 by rw [hW1]; exact HG.out.grow _)
    clear hW1
    go_wp2_with fail
    obtain ⟨b1, hb1⟩ : ∃ b, b = W1.heap.size := ⟨_, rfl⟩
    obtain ⟨W2, hW2⟩ : ∃ W2, W2 = W1.alloc (Obj.cells #[.int .i64 (fieldZ x 26 6), .int .i64 (fieldZ x 22 4), .int .i64 0, .int .i64 0, .int .i64 0] 41) := ⟨_, rfl⟩
    rw [← hW2, ← hb1]
    have hn : b0 ≠ b1 := by have := hZ.lt; omega
    have hg10 := HG.out.size
    replace hZ : Row W2 b0 (insnA 0 0 0 0 0) 41 := by rw [hW2]; exact hZ.grows ((Grows.refl _).alloc _)
    
    have hX : Row W2 b1 (insnA (fieldZ x 26 6) (fieldZ x 22 4) 0 0 0) 41 := by rw [hW2]; exact Row.new_at _ _ _ hb1
    replace HG := Lib.hid (show Grows w W2 by rw [hW2]; exact HG.out.alloc _)
    have HB1 := Lib.hid (show w.heap.size ≤ b1 by have := hg10; omega)
    clear hW2 hb1 hg10
    refine (hsh _).mono ?_
    rintro _ w3 ⟨rfl, g3, rfl⟩
    obtain ⟨W3, hW3⟩ : ∃ WW, WW = World.grow W2 g3 := ⟨_, rfl⟩
    rw [← hW3]
    replace hZ : Row W3 b0 (insnA 0 0 0 0 0) 41 := by rw [hW3]; exact hZ.grows (Grows.of W2 _)
    replace hX : Row W3 b1 (insnA (fieldZ x 26 6) (fieldZ x 22 4) 0 0 0) 41 := by rw [hW3]; exact hX.grows (Grows.of W2 _)
    replace HG := Lib.hid (show Grows w W3 by rw [hW3]; exact HG.out.grow _)
    clear hW3
    go_wp2_with fail
    refine (rfield_any _ _ _ _ HX.out).mono ?_
    rintro _ w4 ⟨rfl, g4, rfl⟩
    obtain ⟨W4, hW3⟩ : ∃ WW, WW = World.grow W3 g4 := ⟨_, rfl⟩
    rw [← hW3]
    replace hZ : Row W4 b0 (insnA 0 0 0 0 0) 41 := by rw [hW3]; exact hZ.grows (Grows.of W3 _)
    replace hX : Row W4 b1 (insnA (fieldZ x 26 6) (fieldZ x 22 4) 0 0 0) 41 := by rw [hW3]; exact hX.grows (Grows.of W3 _)
    replace HG := Lib.hid (show Grows w W4 by rw [hW3]; exact HG.out.grow _)
    clear hW3
    have u0 : World.cell? W4 ⟨b1, 0, none⟩ = some (.int .i64 (fieldZ x 26 6)) := hX.cell 0
    have u1 : World.cell? W4 ⟨b1, 1, none⟩ = some (.int .i64 (fieldZ x 22 4)) := hX.cell 1
    have u2 : World.cell? W4 ⟨b1, 2, none⟩ = some (.int .i64 0) := hX.cell 2
    have u3 : World.cell? W4 ⟨b1, 3, none⟩ = some (.int .i64 0) := hX.cell 3
    have u4 : World.cell? W4 ⟨b1, 4, none⟩ = some (.int .i64 0) := hX.cell 4
    have v2 := hX.frozen 2
    have v3 := hX.frozen 3
    have v4 := hX.frozen 4
    have lx := hX.lt
    go_wp2_with fail
    obtain ⟨W5, hWs⟩ : ∃ WW, WW = World.setCell W4 ⟨b1, 2, none⟩ (.int .i64 (fieldZ x 18 4)) := ⟨_, rfl⟩
    rw [← hWs]
    replace hX : Row W5 b1 (insnA (fieldZ x 26 6) (fieldZ x 22 4) (fieldZ x 18 4) 0 0) 41 := by rw [hWs]; exact row_set hX 2 _
    replace hZ : Row W5 b0 (insnA 0 0 0 0 0) 41 := by rw [hWs]; exact row_setOther hZ (p := ⟨b1, 2, none⟩) (Ne.symm hn) _
    replace HG := Lib.hid (show Grows w W5 by rw [hWs]; exact HG.out.setCell (p := ⟨b1, 2, none⟩) HB1.out _)
    clear hWs u0 u1 u2 u3 u4 v2 v3 v4 lx
    refine (rfield_any _ _ _ _ HX.out).mono ?_
    rintro _ w4 ⟨rfl, g5, rfl⟩
    obtain ⟨W6, hW3⟩ : ∃ WW, WW = World.grow W5 g5 := ⟨_, rfl⟩
    rw [← hW3]
    replace hZ : Row W6 b0 (insnA 0 0 0 0 0) 41 := by rw [hW3]; exact hZ.grows (Grows.of W5 _)
    replace hX : Row W6 b1 (insnA (fieldZ x 26 6) (fieldZ x 22 4) (fieldZ x 18 4) 0 0) 41 := by rw [hW3]; exact hX.grows (Grows.of W5 _)
    replace HG := Lib.hid (show Grows w W6 by rw [hW3]; exact HG.out.grow _)
    clear hW3
    have u0 : World.cell? W6 ⟨b1, 0, none⟩ = some (.int .i64 (fieldZ x 26 6)) := hX.cell 0
    have u1 : World.cell? W6 ⟨b1, 1, none⟩ = some (.int .i64 (fieldZ x 22 4)) := hX.cell 1
    have u2 : World.cell? W6 ⟨b1, 2, none⟩ = some (.int .i64 (fieldZ x 18 4)) := hX.cell 2
    have u3 : World.cell? W6 ⟨b1, 3, none⟩ = some (.int .i64 0) := hX.cell 3
    have u4 : World.cell? W6 ⟨b1, 4, none⟩ = some (.int .i64 0) := hX.cell 4
    have v2 := hX.frozen 2
    have v3 := hX.frozen 3
    have v4 := hX.frozen 4
    have lx := hX.lt
    go_wp2_with fail
    obtain ⟨W7, hWs⟩ : ∃ WW, WW = World.setCell W6 ⟨b1, 3, none⟩ (.int .i64 (fieldZ x 14 4)) := ⟨_, rfl⟩
    rw [← hWs]
    replace hX : Row W7 b1 (insnA (fieldZ x 26 6) (fieldZ x 22 4) (fieldZ x 18 4) (fieldZ x 14 4) 0) 41 := by rw [hWs]; exact row_set hX 3 _
    replace hZ : Row W7 b0 (insnA 0 0 0 0 0) 41 := by rw [hWs]; exact row_setOther hZ (p := ⟨b1, 3, none⟩) (Ne.symm hn) _
    replace HG := Lib.hid (show Grows w W7 by rw [hWs]; exact HG.out.setCell (p := ⟨b1, 3, none⟩) HB1.out _)
    clear hWs u0 u1 u2 u3 u4 v2 v3 v4 lx
    refine (rfield_any _ _ _ _ HX.out).mono ?_
    rintro _ w4 ⟨rfl, g6, rfl⟩
    go_wp2_with fail
    refine (rsign_any _ _ _).mono ?_
    rintro _ w5 ⟨rfl, g7, rfl⟩
    rw [World.grow_grow]
    obtain ⟨W8, hW3⟩ : ∃ WW, WW = World.grow W7 (g6.join g7) := ⟨_, rfl⟩
    rw [← hW3]
    replace hZ : Row W8 b0 (insnA 0 0 0 0 0) 41 := by rw [hW3]; exact hZ.grows (Grows.of W7 _)
    replace hX : Row W8 b1 (insnA (fieldZ x 26 6) (fieldZ x 22 4) (fieldZ x 18 4) (fieldZ x 14 4) 0) 41 := by rw [hW3]; exact hX.grows (Grows.of W7 _)
    replace HG := Lib.hid (show Grows w W8 by rw [hW3]; exact HG.out.grow _)
    clear hW3
    have u0 : World.cell? W8 ⟨b1, 0, none⟩ = some (.int .i64 (fieldZ x 26 6)) := hX.cell 0
    have u1 : World.cell? W8 ⟨b1, 1, none⟩ = some (.int .i64 (fieldZ x 22 4)) := hX.cell 1
    have u2 : World.cell? W8 ⟨b1, 2, none⟩ = some (.int .i64 (fieldZ x 18 4)) := hX.cell 2
    have u3 : World.cell? W8 ⟨b1, 3, none⟩ = some (.int .i64 (fieldZ x 14 4)) := hX.cell 3
    have u4 : World.cell? W8 ⟨b1, 4, none⟩ = some (.int .i64 0) := hX.cell 4
    have v2 := hX.frozen 2
    have v3 := hX.frozen 3
    have v4 := hX.frozen 4
    have lx := hX.lt
    go_wp2_with fail
    obtain ⟨W9, hWs⟩ : ∃ WW, WW = World.setCell W8 ⟨b1, 4, none⟩ (.int .i64 (sgnZ (fieldZ x 0 14) 14)) := ⟨_, rfl⟩
    rw [← hWs]
    replace hX : Row W9 b1 (insnA (fieldZ x 26 6) (fieldZ x 22 4) (fieldZ x 18 4) (fieldZ x 14 4) (sgnZ (fieldZ x 0 14) 14)) 41 := by rw [hWs]; exact row_set hX 4 _
    replace hZ : Row W9 b0 (insnA 0 0 0 0 0) 41 := by rw [hWs]; exact row_setOther hZ (p := ⟨b1, 4, none⟩) (Ne.symm hn) _
    replace HG := Lib.hid (show Grows w W9 by rw [hWs]; exact HG.out.setCell (p := ⟨b1, 4, none⟩) HB1.out _)
    clear hWs u0 u1 u2 u3 u4 v2 v3 v4 lx
    refine (hen _).mono ?_
    rintro _ w6 ⟨rfl, g8, rfl⟩
    obtain ⟨Wf, hW3⟩ : ∃ WW, WW = World.grow W9 g8 := ⟨_, rfl⟩
    rw [← hW3]
    replace hZ : Row Wf b0 (insnA 0 0 0 0 0) 41 := by rw [hW3]; exact hZ.grows (Grows.of W9 _)
    replace hX : Row Wf b1 (insnA (fieldZ x 26 6) (fieldZ x 22 4) (fieldZ x 18 4) (fieldZ x 14 4) (sgnZ (fieldZ x 0 14) 14)) 41 := by rw [hW3]; exact hX.grows (Grows.of W9 _)
    replace HG := Lib.hid (show Grows w Wf by rw [hW3]; exact HG.out.grow _)
    clear hW3
    have z0 : World.cell? Wf ⟨b0, 0, none⟩ = some (.int .i64 0) := hZ.cell 0
    have z1 : World.cell? Wf ⟨b0, 1, none⟩ = some (.int .i64 0) := hZ.cell 1
    have z2 : World.cell? Wf ⟨b0, 2, none⟩ = some (.int .i64 0) := hZ.cell 2
    have z3 : World.cell? Wf ⟨b0, 3, none⟩ = some (.int .i64 0) := hZ.cell 3
    have z4 : World.cell? Wf ⟨b0, 4, none⟩ = some (.int .i64 0) := hZ.cell 4
    have y0 := hZ.frozen 0
    have y1 := hZ.frozen 1
    have y2 := hZ.frozen 2
    have y3 := hZ.frozen 3
    have y4 := hZ.frozen 4
    have lz := hZ.lt
    have u0 : World.cell? Wf ⟨b1, 0, none⟩ = some (.int .i64 (fieldZ x 26 6)) := hX.cell 0
    have u1 : World.cell? Wf ⟨b1, 1, none⟩ = some (.int .i64 (fieldZ x 22 4)) := hX.cell 1
    have u2 : World.cell? Wf ⟨b1, 2, none⟩ = some (.int .i64 (fieldZ x 18 4)) := hX.cell 2
    have u3 : World.cell? Wf ⟨b1, 3, none⟩ = some (.int .i64 (fieldZ x 14 4)) := hX.cell 3
    have u4 : World.cell? Wf ⟨b1, 4, none⟩ = some (.int .i64 (sgnZ (fieldZ x 0 14) 14)) := hX.cell 4
    have v2 := hX.frozen 2
    have v3 := hX.frozen 3
    have v4 := hX.frozen 4
    have lx := hX.lt
    go_wp2_with fail
    have hF := (row_set (row_set (row_set (row_set (row_set hZ 0 (.int .i64 (fieldZ x 26 6))) 1 (.int .i64 (fieldZ x 22 4))) 2 (.int .i64 (fieldZ x 18 4))) 3 (.int .i64 (fieldZ x 14 4))) 4 (.int .i64 (sgnZ (fieldZ x 0 14) 14))).cell
    have hGF := ((((HG.out.setCell (p := ⟨b0, 0, none⟩) HB0.out (.int .i64 (fieldZ x 26 6))).setCell (p := ⟨b0, 1, none⟩) HB0.out (.int .i64 (fieldZ x 22 4))).setCell (p := ⟨b0, 2, none⟩) HB0.out (.int .i64 (fieldZ x 18 4))).setCell (p := ⟨b0, 3, none⟩) HB0.out (.int .i64 (fieldZ x 14 4))).setCell (p := ⟨b0, 4, none⟩) HB0.out (.int .i64 (sgnZ (fieldZ x 0 14) 14))
    exact bodyPost_ret (v := .tuple #[.agg #[.int .i64 (fieldZ x 26 6), .int .i64 (fieldZ x 22 4), .int .i64 (fieldZ x 18 4), .int .i64 (fieldZ x 14 4), .int .i64 (sgnZ (fieldZ x 0 14) 14)], .int .i64 0]) (by simp [results, Tryd.results14, go_sem, hF]) rfl ⟨rfl, hGF⟩
end Go.Proofs.YtjbgamifkgeodaaDoor
