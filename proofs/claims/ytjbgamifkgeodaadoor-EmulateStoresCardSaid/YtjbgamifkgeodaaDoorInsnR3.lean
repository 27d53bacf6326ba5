/- What Valid of the reference of the package insn computes. -/
import Derived.Test.YtjbgamifkgeodaaDoorInsnR2
import Derived.Deep.DeepCutAuto
namespace Go.Proofs.YtjbgamifkgeodaaDoor
open Go Go.RowKit
set_option linter.unusedSimpArgs false
set_option linter.unusedVariables false
def inB (n : Int) : Bool := decide (0 ≤ n) && decide (n ≤ 15)
theorem rreg_in (n : Int) (w : World) :
    Calls Tryd.prog 29 #[.int .i64 n] w fun r w' => r = .returned (.bool (inB n)) ∧ Grows w w' := rreg_any n w
set_option maxRecDepth 100000 in
set_option maxHeartbeats 4000000 in
theorem rvalid_no {op rd r1 r2 v : Int} (h : decide (0 ≤ shapeZ op) = false ∨ inB rd = false ∨ inB r1 = false ∨ inB r2 = false ∨ immB op (shapeZ op) v = false) (w : World) :
    Calls Tryd.prog 19 #[.agg #[.int .i64 op, .int .i64 rd, .int .i64 r1, .int .i64 r2, .int .i64 v]] w fun r w' => r = .returned (.bool false) ∧ Grows w w' := by
  have hsh := fun w => rshape_any op w
  have him := fun w => rimm_any op v w
  obtain ⟨s, hs⟩ : ∃ s, s = shapeZ op := ⟨_, rfl⟩
  obtain ⟨q, hq⟩ : ∃ q, q = immB op (shapeZ op) v := ⟨_, rfl⟩
  rw [← hq] at him
  rw [← hs] at hsh
  rw [← hq, ← hs] at h
  clear hs hq
  by_cases h0 : 0 ≤ s
  · have h' : inB rd = false ∨ inB r1 = false ∨ inB r2 = false ∨ q = false := by
      rcases h with h | h
      · rw [decide_eq_true h0] at h; cases h
      · exact h
    clear h
    cases hrd : inB rd
    · have H1 := Lib.hid hrd
      clear h' hrd him
      go_enter Tryd.func19, Tryd.ntmps19
      iterate 8 (first | go_values | go_skip | go_guarded | go_step | go_upon | go_back)
      obtain ⟨b0, hb0⟩ : ∃ b, b = w.heap.size := ⟨_, rfl⟩
      obtain ⟨W, hW⟩ : ∃ W, W = w.alloc (Obj.cells #[.int .i64 op, .int .i64 rd, .int .i64 r1, .int .i64 r2, .int .i64 v] 41) := ⟨_, rfl⟩
      rw [← hW, ← hb0]
      have hX : Row W b0 #[.int .i64 op, .int .i64 rd, .int .i64 r1, .int .i64 r2, .int .i64 v] 41 := by rw [hW]; exact Row.new_at _ _ _ hb0
      have HG := Lib.hid (show Grows w W by rw [hW]; exact (Grows.refl _).alloc _)
      clear hW hb0
      have x0 : W.cell? ⟨b0, 0, none⟩ = some (.int .i64 op) := hX.cell 0
      have x1 : W.cell? ⟨b0, 1, none⟩ = some (.int .i64 rd) := hX.cell 1
      have x2 : W.cell? ⟨b0, 2, none⟩ = some (.int .i64 r1) := hX.cell 2
      have x3 : W.cell? ⟨b0, 3, none⟩ = some (.int .i64 r2) := hX.cell 3
      have x4 : W.cell? ⟨b0, 4, none⟩ = some (.int .i64 v) := hX.cell 4
      have lx := hX.lt
      go_wp2_with fail
      refine (hsh _).mono ?_
      rintro _ w1 ⟨rfl, g1, rfl⟩
      go_wp2_with fail
      refine (rreg_in _ _).mono ?_
      rintro _ w2 ⟨rfl, ga, rfl⟩
      rw [(H1).out]
      go_wp2_with fail
      go_ret
      exact ⟨rfl, HG.out.grow _⟩
    have H1 := Lib.hid hrd
    rw [hrd] at h'
    clear hrd
    cases hr1 : inB r1
    · have H2 := Lib.hid hr1
      clear h' hr1 him
      go_enter Tryd.func19, Tryd.ntmps19
      iterate 8 (first | go_values | go_skip | go_guarded | go_step | go_upon | go_back)
      obtain ⟨b0, hb0⟩ : ∃ b, b = w.heap.size := ⟨_, rfl⟩
      obtain ⟨W, hW⟩ : ∃ W, W = w.alloc (Obj.cells #[.int .i64 op, .int .i64 rd, .int .i64 r1, .int .i64 r2, .int .i64 v] 41) := ⟨_, rfl⟩
      rw [← hW, ← hb0]
      have hX : Row W b0 #[.int .i64 op, .int .i64 rd, .int .i64 r1, .int .i64 r2, .int .i64 v] 41 := by rw [hW]; exact Row.new_at _ _ _ hb0
      have HG := Lib.hid (show Grows w W by rw [hW]; exact (Grows.refl _).alloc _)
      clear hW hb0
      have x0 : W.cell? ⟨b0, 0, none⟩ = some (.int .i64 op) := hX.cell 0
      have x1 : W.cell? ⟨b0, 1, none⟩ = some (.int .i64 rd) := hX.cell 1
      have x2 : W.cell? ⟨b0, 2, none⟩ = some (.int .i64 r1) := hX.cell 2
      have x3 : W.cell? ⟨b0, 3, none⟩ = some (.int .i64 r2) := hX.cell 3
      have x4 : W.cell? ⟨b0, 4, none⟩ = some (.int .i64 v) := hX.cell 4
      have lx := hX.lt
      go_wp2_with fail
      refine (hsh _).mono ?_
      rintro _ w1 ⟨rfl, g1, rfl⟩
      go_wp2_with fail
      refine (rreg_in _ _).mono ?_
      rintro _ w2 ⟨rfl, ga, rfl⟩
      rw [(H1).out]
      go_wp2_with fail
      refine (rreg_in _ _).mono ?_
      rintro _ w2 ⟨rfl, gb, rfl⟩
      rw [(H2).out]
      go_wp2_with fail
      go_ret
      exact ⟨rfl, HG.out.grow _⟩
    have H2 := Lib.hid hr1
    rw [hr1] at h'
    clear hr1
    cases hr2 : inB r2
    · have H3 := Lib.hid hr2
      clear h' hr2 him
      go_enter Tryd.func19, Tryd.ntmps19
      iterate 8 (first | go_values | go_skip | go_guarded | go_step | go_upon | go_back)
      obtain ⟨b0, hb0⟩ : ∃ b, b = w.heap.size := ⟨_, rfl⟩
      obtain ⟨W, hW⟩ : ∃ W, W = w.alloc (Obj.cells #[.int .i64 op, .int .i64 rd, .int .i64 r1, .int .i64 r2, .int .i64 v] 41) := ⟨_, rfl⟩
      rw [← hW, ← hb0]
      have hX : Row W b0 #[.int .i64 op, .int .i64 rd, .int .i64 r1, .int .i64 r2, .int .i64 v] 41 := by rw [hW]; exact Row.new_at _ _ _ hb0
      have HG := Lib.hid (show Grows w W by rw [hW]; exact (Grows.refl _).alloc _)
      clear hW hb0
      have x0 : W.cell? ⟨b0, 0, none⟩ = some (.int .i64 op) := hX.cell 0
      have x1 : W.cell? ⟨b0, 1, none⟩ = some (.int .i64 rd) := hX.cell 1
      have x2 : W.cell? ⟨b0, 2, none⟩ = some (.int .i64 r1) := hX.cell 2
      have x3 : W.cell? ⟨b0, 3, none⟩ = some (.int .i64 r2) := hX.cell 3
      have x4 : W.cell? ⟨b0, 4, none⟩ = some (.int .i64 v) := hX.cell 4
      have lx := hX.lt
      go_wp2_with fail
      refine (hsh _).mono ?_
      rintro _ w1 ⟨rfl, g1, rfl⟩
      go_wp2_with fail
      refine (rreg_in _ _).mono ?_
      rintro _ w2 ⟨rfl, ga, rfl⟩
      rw [(H1).out]
      go_wp2_with fail
      refine (rreg_in _ _).mono ?_
      rintro _ w2 ⟨rfl, gb, rfl⟩
      rw [(H2).out]
      go_wp2_with fail
      refine (rreg_in _ _).mono ?_
      rintro _ w2 ⟨rfl, gc, rfl⟩
      rw [(H3).out]
      go_wp2_with fail
      go_ret
      exact ⟨rfl, HG.out.grow _⟩
    have H3 := Lib.hid hr2
    rw [hr2] at h'
    clear hr2
    have hq : q = false := by simpa using h'
    subst hq
    clear h'
    go_enter Tryd.func19, Tryd.ntmps19
    iterate 8 (first | go_values | go_skip | go_guarded | go_step | go_upon | go_back)
    obtain ⟨b0, hb0⟩ : ∃ b, b = w.heap.size := ⟨_, rfl⟩
    obtain ⟨W, hW⟩ : ∃ W, W = w.alloc (Obj.cells #[.int .i64 op, .int .i64 rd, .int .i64 r1, .int .i64 r2, .int .i64 v] 41) := ⟨_, rfl⟩
    rw [← hW, ← hb0]
    have hX : Row W b0 #[.int .i64 op, .int .i64 rd, .int .i64 r1, .int .i64 r2, .int .i64 v] 41 := by rw [hW]; exact Row.new_at _ _ _ hb0
    have HG := Lib.hid (show Grows w W by rw [hW]; exact (Grows.refl _).alloc _)
    clear hW hb0
    have x0 : W.cell? ⟨b0, 0, none⟩ = some (.int .i64 op) := hX.cell 0
    have x1 : W.cell? ⟨b0, 1, none⟩ = some (.int .i64 rd) := hX.cell 1
    have x2 : W.cell? ⟨b0, 2, none⟩ = some (.int .i64 r1) := hX.cell 2
    have x3 : W.cell? ⟨b0, 3, none⟩ = some (.int .i64 r2) := hX.cell 3
    have x4 : W.cell? ⟨b0, 4, none⟩ = some (.int .i64 v) := hX.cell 4
    have lx := hX.lt
    go_wp2_with fail
    refine (hsh _).mono ?_
    rintro _ w1 ⟨rfl, g1, rfl⟩
    go_wp2_with fail
    refine (rreg_in _ _).mono ?_
    rintro _ w2 ⟨rfl, ga, rfl⟩
    rw [(H1).out]
    go_wp2_with fail
    refine (rreg_in _ _).mono ?_
    rintro _ w2 ⟨rfl, gb, rfl⟩
    rw [(H2).out]
    go_wp2_with fail
    refine (rreg_in _ _).mono ?_
    rintro _ w2 ⟨rfl, gc, rfl⟩
    rw [(H3).out]
    go_wp2_with fail
    refine (him _).mono ?_
    rintro _ w2 ⟨rfl, g2, rfl⟩
    go_wp2_with fail
    go_ret
    exact ⟨rfl, HG.out.grow _⟩
  · have h0' : s < 0 := by omega
    clear h h0 him
    go_enter Tryd.func19, Tryd.ntmps19
    iterate 8 (first | go_values | go_skip | go_guarded | go_step | go_upon | go_back)
    obtain ⟨b0, hb0⟩ : ∃ b, b = w.heap.size := ⟨_, rfl⟩
    obtain ⟨W, hW⟩ : ∃ W, W = w.alloc (Obj.cells #[.int .i64 op, .int .i64 rd, .int .i64 r1, .int .i64 r2, .int .i64 v] 41) := ⟨_, rfl⟩
    rw [← hW, ← hb0]
    have hX : Row W b0 #[.int .i64 op, .int .i64 rd, .int .i64 r1, .int .i64 r2, .int .i64 v] 41 := by rw [hW]; exact Row.new_at _ _ _ hb0
    have HG := Lib.hid (show Grows w W by rw [hW]; exact (Grows.refl _).alloc _)
    clear hW hb0
    have x0 : W.cell? ⟨b0, 0, none⟩ = some (.int .i64 op) := hX.cell 0
    have x1 : W.cell? ⟨b0, 1, none⟩ = some (.int .i64 rd) := hX.cell 1
    have x2 : W.cell? ⟨b0, 2, none⟩ = some (.int .i64 r1) := hX.cell 2
    have x3 : W.cell? ⟨b0, 3, none⟩ = some (.int .i64 r2) := hX.cell 3
    have x4 : W.cell? ⟨b0, 4, none⟩ = some (.int .i64 v) := hX.cell 4
    have lx := hX.lt
    go_wp2_with fail
    refine (hsh _).mono ?_
    rintro _ w1 ⟨rfl, g1, rfl⟩
    go_wp2_with fail
    go_ret
    exact ⟨rfl, HG.out.grow _⟩
set_option maxRecDepth 100000 in
set_option maxHeartbeats 4000000 in
theorem rvalid_fin {op rd r1 r2 v : Int} (hs0 : 0 ≤ shapeZ op) (h1 : inB rd = true) (h2 : inB r1 = true) (h3 : inB r2 = true) (h4 : immB op (shapeZ op) v = true) (w : World) :
    Calls Tryd.prog 19 #[.agg #[.int .i64 op, .int .i64 rd, .int .i64 r1, .int .i64 r2, .int .i64 v]] w fun r w' => r = .returned (.bool (validB op rd r1 r2 v)) ∧ Grows w w' := by
  have hE : validB op rd r1 r2 v = (((shapeZ op == 1 || shapeZ op == 2 || shapeZ op == 5) || rd == 0) && ((shapeZ op != 0 && shapeZ op != 5) || r1 == 0) && ((shapeZ op == 1 && op != 37 || shapeZ op == 3 || shapeZ op == 4) || r2 == 0)) := by
    unfold validB regB
    rw [h4, decide_eq_true hs0]
    unfold inB at h1 h2 h3
    rw [h1, h2, h3]
    simp only [Bool.true_and]
  have hsh := fun w => rshape_any op w
  have him := fun w => rimm_any op v w
  rw [h4] at him
  have hr := shapeZ_range op
  have H1 := Lib.hid h1
  have H2 := Lib.hid h2
  have H3 := Lib.hid h3
  obtain ⟨s, hs⟩ : ∃ s, s = shapeZ op := ⟨_, rfl⟩
  rw [← hs] at hsh hE hs0 hr
  have HE := Lib.hid hE
  have hlt : decide (s < 0) = false := decide_eq_false (by omega)
  clear h1 h2 h3 h4 hs hE
  go_enter Tryd.func19, Tryd.ntmps19
  iterate 8 (first | go_values | go_skip | go_guarded | go_step | go_upon | go_back)
  obtain ⟨b0, hb0⟩ : ∃ b, b = w.heap.size := ⟨_, rfl⟩
  obtain ⟨W, hW⟩ : ∃ W, W = w.alloc (Obj.cells #[.int .i64 op, .int .i64 rd, .int .i64 r1, .int .i64 r2, .int .i64 v] 41) := ⟨_, rfl⟩
  rw [← hW, ← hb0]
  have hX : Row W b0 #[.int .i64 op, .int .i64 rd, .int .i64 r1, .int .i64 r2, .int .i64 v] 41 := by rw [hW]; exact Row.new_at _ _ _ hb0
  have HG := Lib.hid (show Grows w W by rw [hW]; exact (Grows.refl _).alloc _)
  clear hW hb0
  have x0 : W.cell? ⟨b0, 0, none⟩ = some (.int .i64 op) := hX.cell 0
  have x1 : W.cell? ⟨b0, 1, none⟩ = some (.int .i64 rd) := hX.cell 1
  have x2 : W.cell? ⟨b0, 2, none⟩ = some (.int .i64 r1) := hX.cell 2
  have x3 : W.cell? ⟨b0, 3, none⟩ = some (.int .i64 r2) := hX.cell 3
  have x4 : W.cell? ⟨b0, 4, none⟩ = some (.int .i64 v) := hX.cell 4
  have lx := hX.lt
  go_wp2_with fail
  refine (hsh _).mono ?_
  rintro _ w1 ⟨rfl, g1, rfl⟩
  go_wp2_with fail
  refine (rreg_in _ _).mono ?_
  rintro _ w2 ⟨rfl, ga, rfl⟩
  rw [(H1).out]
  go_wp2_with fail
  refine (rreg_in _ _).mono ?_
  rintro _ w2 ⟨rfl, gb, rfl⟩
  rw [(H2).out]
  go_wp2_with fail
  refine (rreg_in _ _).mono ?_
  rintro _ w2 ⟨rfl, gc, rfl⟩
  rw [(H3).out]
  go_wp2_with fail
  refine (him _).mono ?_
  rintro _ w2 ⟨rfl, g2, rfl⟩
  rw [World.grow_grow]
  obtain ⟨W2, hW2⟩ : ∃ W2, W2 = W.grow ((((g1.join ga).join gb).join gc).join g2) := ⟨_, rfl⟩
  rw [← hW2]
  have y0 : W2.cell? ⟨b0, 0, none⟩ = some (.int .i64 op) := by rw [hW2]; exact (hX.grows (Grows.of W _)).cell 0
  have y1 : W2.cell? ⟨b0, 1, none⟩ = some (.int .i64 rd) := by rw [hW2]; exact (hX.grows (Grows.of W _)).cell 1
  have y2 : W2.cell? ⟨b0, 2, none⟩ = some (.int .i64 r1) := by rw [hW2]; exact (hX.grows (Grows.of W _)).cell 2
  have y3 : W2.cell? ⟨b0, 3, none⟩ = some (.int .i64 r2) := by rw [hW2]; exact (hX.grows (Grows.of W _)).cell 3
  have ly : b0 < W2.heap.size := by rw [hW2]; exact (hX.grows (Grows.of W _)).lt
  have HG2 := Lib.hid (show Grows w W2 by rw [hW2]; exact HG.out.grow _)
  have hs7 : s = 0 ∨ s = 1 ∨ s = 2 ∨ s = 3 ∨ s = 4 ∨ s = 5 ∨ s = 6 := by omega
  have HS := Lib.hid hs7
  clear hW2 x0 x1 x2 x3 x4 lx hX HG hsh him hr hs0 H1 H2 H3 hs7
  go_upto_region 4 with fail
  go_cut [4] (fun s4 wx => s4 = .bool (s == 1 || s == 2 || s == 5) ∧ wx = W2)
  case first =>
    clear HE
    rcases HS.out with rfl | rfl | rfl | rfl | rfl | rfl | rfl
    all_goals
      clear HS
      go_wp2_with fail
      go_meet
      exact ⟨rfl, rfl⟩
  case rest =>
    obtain ⟨rfl, rfl⟩ := hcut
    go_upto_region 5 with fail
    go_cut [5] (fun s5 wx => s5 = .bool (s != 0 && s != 5) ∧ wx = wc)
    case first =>
      clear HE
      rcases HS.out with rfl | rfl | rfl | rfl | rfl | rfl | rfl
      all_goals
        clear HS
        go_wp2_with fail
        go_meet
        exact ⟨rfl, rfl⟩
    case rest =>
      obtain ⟨rfl, rfl⟩ := hcut
      go_upto_region 6 with fail
      go_cut [6] (fun s6 wx => s6 = .bool (s == 1 && op != 37 || s == 3 || s == 4) ∧ wx = wc)
      case first =>
        clear HE
        cases h37 : (op != 37)
        all_goals
          rcases HS.out with rfl | rfl | rfl | rfl | rfl | rfl | rfl
          all_goals
            clear HS
            have H37 := Lib.hid h37
            go_wp2_with fail
            go_meet
            exact ⟨by first | rfl | (rw [H37.out]; rfl), rfl⟩
      case rest =>
        obtain ⟨rfl, rfl⟩ := hcut
        obtain ⟨a, ha⟩ : ∃ a, a = (s == 1 || s == 2 || s == 5) := ⟨_, rfl⟩
        obtain ⟨b, hb⟩ : ∃ b, b = (s != 0 && s != 5) := ⟨_, rfl⟩
        obtain ⟨c, hc⟩ : ∃ c, c = (s == 1 && op != 37 || s == 3 || s == 4) := ⟨_, rfl⟩
        rw [← ha, ← hb, ← hc]
        have hE := HE.out
        rw [← ha, ← hb, ← hc] at hE
        clear HE HS ha hb hc
        have HE := Lib.hid hE
        clear hE
        cases a <;> cases b <;> cases c <;> cases z0 : (rd == 0) <;> cases z1 : (r1 == 0) <;> cases z2 : (r2 == 0)
        all_goals
          have HZ := Lib.hid (And.intro z0 (And.intro z1 z2))
          go_wp2_with fail
          go_ret
          refine ⟨?_, HG2.out⟩
          rw [HE.out, HZ.out.1, HZ.out.2.1, HZ.out.2.2]
          rfl
end Go.Proofs.YtjbgamifkgeodaaDoor
