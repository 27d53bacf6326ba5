/- The walk of InsnEncodes. -/
import Derived.Test.YtjbgamifkgeodaaInsnE
import Derived.Test.YtjbgamifkgeodaaInsnR4
namespace Go.Proofs.Ytjbgamifkgeodaa
open Go Go.RowKit
set_option linter.unusedSimpArgs false
set_option linter.unusedVariables false
theorem names_any (w : World) : Calls Try.prog 21 #[] w fun r w' => r = .returned (.bool true) ∧ Grows w w' := by
  go_enter Try.func21, Try.ntmps21
  go_wp2_with fail
  go_ret
  exact ⟨rfl, Grows.refl _⟩
set_option maxRecDepth 100000 in
set_option maxHeartbeats 4000000 in
theorem insnEncodes_walk (op : Int) (wo : (Lit.int .i64 op).wf = true) (rd : Int) (_ : (Lit.int .i64 rd).wf = true) (r1 : Int) (_ : (Lit.int .i64 r1).wf = true) (r2 : Int) (_ : (Lit.int .i64 r2).wf = true) (v : Int) (_ : (Lit.int .i64 v).wf = true) (w : World) :
    Calls Try.prog 5 #[.agg #[.int .i64 op, .int .i64 rd, .int .i64 r1, .int .i64 r2, .int .i64 v]] w fun r w' => r = .returned (.bool true) ∧ Grows w w' := by
  have hva := fun w => valid_any op rd r1 r2 v wo w
  have hrva := fun w => rvalid_any op rd r1 r2 v w
  have hrsh := fun w => rshape_any op w
  by_cases hs : 0 ≤ shapeZ op
  · have hsh := fun w => shape_yes wo hs w
    have hd : decide (0 ≤ shapeZ op) = true := decide_eq_true hs
    cases hv : validB op rd r1 r2 v
    · have hen := fun w => encode_no wo hv w
      have hren := fun w => rencode_no hv w
      rw [hv] at hva hrva
      obtain ⟨s, hse⟩ : ∃ s, s = shapeZ op := ⟨_, rfl⟩
      rw [← hse] at hrsh hsh hs hd
      clear hv hse
      go_enter Try.func5, Try.ntmps5
      iterate 8 (first | go_values | go_skip | go_guarded | go_step | go_upon | go_back)
      obtain ⟨b0, hb0⟩ : ∃ b, b = w.heap.size := ⟨_, rfl⟩
      obtain ⟨W, hW⟩ : ∃ W, W = w.alloc (Obj.cells #[.int .i64 op, .int .i64 rd, .int .i64 r1, .int .i64 r2, .int .i64 v] 40) := ⟨_, rfl⟩
      rw [← hW, ← hb0]
      have hX : Row W b0 (insnA op rd r1 r2 v) 40 := by rw [hW]; exact Row.new_at _ _ _ hb0
      have HG := Lib.hid (show Grows w W by rw [hW]; exact (Grows.refl _).alloc _)
      clear hW hb0
      have x0 : World.cell? W ⟨b0, 0, none⟩ = some (.int .i64 op) := hX.cell 0
      have x1 : World.cell? W ⟨b0, 1, none⟩ = some (.int .i64 rd) := hX.cell 1
      have x2 : World.cell? W ⟨b0, 2, none⟩ = some (.int .i64 r1) := hX.cell 2
      have x3 : World.cell? W ⟨b0, 3, none⟩ = some (.int .i64 r2) := hX.cell 3
      have x4 : World.cell? W ⟨b0, 4, none⟩ = some (.int .i64 v) := hX.cell 4
      have lx := hX.lt
      go_wp2_with fail
      refine (hen _).mono ?_
      rintro _ w1 ⟨rfl, g1, rfl⟩
      obtain ⟨W1, hWn⟩ : ∃ WW, WW = World.grow W g1 := ⟨_, rfl⟩
      rw [← hWn]
      replace hX : Row W1 b0 (insnA op rd r1 r2 v) 40 := by rw [hWn]; exact hX.grows (Grows.of W _)
      replace HG := Lib.hid (show Grows w W1 by rw [hWn]; exact HG.out.grow _)
      clear hWn x0 x1 x2 x3 x4 lx
      have x0 : World.cell? W1 ⟨b0, 0, none⟩ = some (.int .i64 op) := hX.cell 0
      have x1 : World.cell? W1 ⟨b0, 1, none⟩ = some (.int .i64 rd) := hX.cell 1
      have x2 : World.cell? W1 ⟨b0, 2, none⟩ = some (.int .i64 r1) := hX.cell 2
      have x3 : World.cell? W1 ⟨b0, 3, none⟩ = some (.int .i64 r2) := hX.cell 3
      have x4 : World.cell? W1 ⟨b0, 4, none⟩ = some (.int .i64 v) := hX.cell 4
      have lx := hX.lt
      go_wp2_with fail
      refine (hren _).mono ?_
      rintro _ w1 ⟨rfl, g2, rfl⟩
      obtain ⟨W2, hWn⟩ : ∃ WW, WW = World.grow W1 g2 := ⟨_, rfl⟩
      rw [← hWn]
      replace hX : Row W2 b0 (insnA op rd r1 r2 v) 40 := by rw [hWn]; exact hX.grows (Grows.of W1 _)
      replace HG := Lib.hid (show Grows w W2 by rw [hWn]; exact HG.out.grow _)
      clear hWn x0 x1 x2 x3 x4 lx
      have x0 : World.cell? W2 ⟨b0, 0, none⟩ = some (.int .i64 op) := hX.cell 0
      have x1 : World.cell? W2 ⟨b0, 1, none⟩ = some (.int .i64 rd) := hX.cell 1
      have x2 : World.cell? W2 ⟨b0, 2, none⟩ = some (.int .i64 r1) := hX.cell 2
      have x3 : World.cell? W2 ⟨b0, 3, none⟩ = some (.int .i64 r2) := hX.cell 3
      have x4 : World.cell? W2 ⟨b0, 4, none⟩ = some (.int .i64 v) := hX.cell 4
      have lx := hX.lt
      go_wp2_with fail
      refine (hsh _).mono ?_
      rintro _ w1 ⟨rfl, g3, rfl⟩
      obtain ⟨W3, hWn⟩ : ∃ WW, WW = World.grow W2 g3 := ⟨_, rfl⟩
      rw [← hWn]
      replace hX : Row W3 b0 (insnA op rd r1 r2 v) 40 := by rw [hWn]; exact hX.grows (Grows.of W2 _)
      replace HG := Lib.hid (show Grows w W3 by rw [hWn]; exact HG.out.grow _)
      clear hWn x0 x1 x2 x3 x4 lx
      have x0 : World.cell? W3 ⟨b0, 0, none⟩ = some (.int .i64 op) := hX.cell 0
      have x1 : World.cell? W3 ⟨b0, 1, none⟩ = some (.int .i64 rd) := hX.cell 1
      have x2 : World.cell? W3 ⟨b0, 2, none⟩ = some (.int .i64 r1) := hX.cell 2
      have x3 : World.cell? W3 ⟨b0, 3, none⟩ = some (.int .i64 r2) := hX.cell 3
      have x4 : World.cell? W3 ⟨b0, 4, none⟩ = some (.int .i64 v) := hX.cell 4
      have lx := hX.lt
      go_wp2_with fail
      refine (hrsh _).mono ?_
      rintro _ w1 ⟨rfl, g4, rfl⟩
      obtain ⟨W4, hWn⟩ : ∃ WW, WW = World.grow W3 g4 := ⟨_, rfl⟩
      rw [← hWn]
      replace hX : Row W4 b0 (insnA op rd r1 r2 v) 40 := by rw [hWn]; exact hX.grows (Grows.of W3 _)
      replace HG := Lib.hid (show Grows w W4 by rw [hWn]; exact HG.out.grow _)
      clear hWn x0 x1 x2 x3 x4 lx
      have x0 : World.cell? W4 ⟨b0, 0, none⟩ = some (.int .i64 op) := hX.cell 0
      have x1 : World.cell? W4 ⟨b0, 1, none⟩ = some (.int .i64 rd) := hX.cell 1
      have x2 : World.cell? W4 ⟨b0, 2, none⟩ = some (.int .i64 r1) := hX.cell 2
      have x3 : World.cell? W4 ⟨b0, 3, none⟩ = some (.int .i64 r2) := hX.cell 3
      have x4 : World.cell? W4 ⟨b0, 4, none⟩ = some (.int .i64 v) := hX.cell 4
      have lx := hX.lt
      go_wp2_with fail
      refine wp_region_grow (by kernel_rfl) (by kernel_rfl) ?_
      repeat (go_big_quiet_step ((first | (go_at_call 19; exact (hva _).mono (fun _ _ ⟨he, hw⟩ => ⟨he, (Grows.of _ _).trans hw⟩)) | (go_at_call 20; exact (hrva _).mono (fun _ _ ⟨he, hw⟩ => ⟨he, (Grows.of _ _).trans hw⟩)) | (go_at_call 21; exact (names_any _).mono (fun _ _ ⟨he, hw⟩ => ⟨he, (Grows.of _ _).trans hw⟩)))))
      refine wpQuiet_nil ?_
      intro _ hw'
      obtain ⟨g5, rfl⟩ := hw'
      go_wp2_with fail
      go_ret
      exact ⟨rfl, HG.out.grow _⟩
    · have hen := fun w => encode_yes wo hv w
      have hren := fun w => rencode_yes hv w
      rw [hv] at hva hrva
      obtain ⟨s, hse⟩ : ∃ s, s = shapeZ op := ⟨_, rfl⟩
      obtain ⟨Q, hQ⟩ : ∃ Q, Q = encW op rd r1 r2 v := ⟨_, rfl⟩
      rw [← hQ] at hen hren
      rw [← hse] at hrsh hsh hs hd
      clear hv hse hQ
      go_enter Try.func5, Try.ntmps5
      iterate 8 (first | go_values | go_skip | go_guarded | go_step | go_upon | go_back)
      obtain ⟨b0, hb0⟩ : ∃ b, b = w.heap.size := ⟨_, rfl⟩
      obtain ⟨W, hW⟩ : ∃ W, W = w.alloc (Obj.cells #[.int .i64 op, .int .i64 rd, .int .i64 r1, .int .i64 r2, .int .i64 v] 40) := ⟨_, rfl⟩
      rw [← hW, ← hb0]
      have hX : Row W b0 (insnA op rd r1 r2 v) 40 := by rw [hW]; exact Row.new_at _ _ _ hb0
      have HG := Lib.hid (show Grows w W by rw [hW]; exact (Grows.refl _).alloc _)
      clear hW hb0
      have x0 : World.cell? W ⟨b0, 0, none⟩ = some (.int .i64 op) := hX.cell 0
      have x1 : World.cell? W ⟨b0, 1, none⟩ = some (.int .i64 rd) := hX.cell 1
      have x2 : World.cell? W ⟨b0, 2, none⟩ = some (.int .i64 r1) := hX.cell 2
      have x3 : World.cell? W ⟨b0, 3, none⟩ = some (.int .i64 r2) := hX.cell 3
      have x4 : World.cell? W ⟨b0, 4, none⟩ = some (.int .i64 v) := hX.cell 4
      have lx := hX.lt
      go_wp2_with fail
      refine (hen _).mono ?_
      rintro _ w1 ⟨rfl, g1, rfl⟩
      obtain ⟨W1, hWn⟩ : ∃ WW, WW = World.grow W g1 := ⟨_, rfl⟩
      rw [← hWn]
      replace hX : Row W1 b0 (insnA op rd r1 r2 v) 40 := by rw [hWn]; exact hX.grows (Grows.of W _)
      replace HG := Lib.hid (show Grows w W1 by rw [hWn]; exact HG.out.grow _)
      clear hWn x0 x1 x2 x3 x4 lx
      have x0 : World.cell? W1 ⟨b0, 0, none⟩ = some (.int .i64 op) := hX.cell 0
      have x1 : World.cell? W1 ⟨b0, 1, none⟩ = some (.int .i64 rd) := hX.cell 1
      have x2 : World.cell? W1 ⟨b0, 2, none⟩ = some (.int .i64 r1) := hX.cell 2
      have x3 : World.cell? W1 ⟨b0, 3, none⟩ = some (.int .i64 r2) := hX.cell 3
      have x4 : World.cell? W1 ⟨b0, 4, none⟩ = some (.int .i64 v) := hX.cell 4
      have lx := hX.lt
      go_wp2_with fail
      refine (hren _).mono ?_
      rintro _ w1 ⟨rfl, g2, rfl⟩
      obtain ⟨W2, hWn⟩ : ∃ WW, WW = World.grow W1 g2 := ⟨_, rfl⟩
      rw [← hWn]
      replace hX : Row W2 b0 (insnA op rd r1 r2 v) 40 := by rw [hWn]; exact hX.grows (Grows.of W1 _)
      replace HG := Lib.hid (show Grows w W2 by rw [hWn]; exact HG.out.grow _)
      clear hWn x0 x1 x2 x3 x4 lx
      have x0 : World.cell? W2 ⟨b0, 0, none⟩ = some (.int .i64 op) := hX.cell 0
      have x1 : World.cell? W2 ⟨b0, 1, none⟩ = some (.int .i64 rd) := hX.cell 1
      have x2 : World.cell? W2 ⟨b0, 2, none⟩ = some (.int .i64 r1) := hX.cell 2
      have x3 : World.cell? W2 ⟨b0, 3, none⟩ = some (.int .i64 r2) := hX.cell 3
      have x4 : World.cell? W2 ⟨b0, 4, none⟩ = some (.int .i64 v) := hX.cell 4
      have lx := hX.lt
      go_wp2_with fail
      refine (hsh _).mono ?_
      rintro _ w1 ⟨rfl, g3, rfl⟩
      obtain ⟨W3, hWn⟩ : ∃ WW, WW = World.grow W2 g3 := ⟨_, rfl⟩
      rw [← hWn]
      replace hX : Row W3 b0 (insnA op rd r1 r2 v) 40 := by rw [hWn]; exact hX.grows (Grows.of W2 _)
      replace HG := Lib.hid (show Grows w W3 by rw [hWn]; exact HG.out.grow _)
      clear hWn x0 x1 x2 x3 x4 lx
      have x0 : World.cell? W3 ⟨b0, 0, none⟩ = some (.int .i64 op) := hX.cell 0
      have x1 : World.cell? W3 ⟨b0, 1, none⟩ = some (.int .i64 rd) := hX.cell 1
      have x2 : World.cell? W3 ⟨b0, 2, none⟩ = some (.int .i64 r1) := hX.cell 2
      have x3 : World.cell? W3 ⟨b0, 3, none⟩ = some (.int .i64 r2) := hX.cell 3
      have x4 : World.cell? W3 ⟨b0, 4, none⟩ = some (.int .i64 v) := hX.cell 4
      have lx := hX.lt
      go_wp2_with fail
      refine (hrsh _).mono ?_
      rintro _ w1 ⟨rfl, g4, rfl⟩
      obtain ⟨W4, hWn⟩ : ∃ WW, WW = World.grow W3 g4 := ⟨_, rfl⟩
      rw [← hWn]
      replace hX : Row W4 b0 (insnA op rd r1 r2 v) 40 := by rw [hWn]; exact hX.grows (Grows.of W3 _)
      replace HG := Lib.hid (show Grows w W4 by rw [hWn]; exact HG.out.grow _)
      clear hWn x0 x1 x2 x3 x4 lx
      have x0 : World.cell? W4 ⟨b0, 0, none⟩ = some (.int .i64 op) := hX.cell 0
      have x1 : World.cell? W4 ⟨b0, 1, none⟩ = some (.int .i64 rd) := hX.cell 1
      have x2 : World.cell? W4 ⟨b0, 2, none⟩ = some (.int .i64 r1) := hX.cell 2
      have x3 : World.cell? W4 ⟨b0, 3, none⟩ = some (.int .i64 r2) := hX.cell 3
      have x4 : World.cell? W4 ⟨b0, 4, none⟩ = some (.int .i64 v) := hX.cell 4
      have lx := hX.lt
      go_wp2_with fail
      refine wp_region_grow (by kernel_rfl) (by kernel_rfl) ?_
      repeat (go_big_quiet_step ((first | (go_at_call 19; exact (hva _).mono (fun _ _ ⟨he, hw⟩ => ⟨he, (Grows.of _ _).trans hw⟩)) | (go_at_call 20; exact (hrva _).mono (fun _ _ ⟨he, hw⟩ => ⟨he, (Grows.of _ _).trans hw⟩)) | (go_at_call 21; exact (names_any _).mono (fun _ _ ⟨he, hw⟩ => ⟨he, (Grows.of _ _).trans hw⟩)))))
      refine wpQuiet_nil ?_
      intro _ hw'
      obtain ⟨g5, rfl⟩ := hw'
      go_wp2_with fail
      go_ret
      exact ⟨rfl, HG.out.grow _⟩
  · have hsh := fun w => shape_no wo hs w
    have hv : validB op rd r1 r2 v = false := by unfold validB; rw [decide_eq_false hs]; simp
    have hen := fun w => encode_no wo hv w
    have hren := fun w => rencode_no hv w
    rw [hv] at hva hrva
    have hk : shapeZ op = -1 := by have := shapeZ_range op; omega
    rw [hk] at hrsh
    clear hv hs hk
    go_enter Try.func5, Try.ntmps5
    iterate 8 (first | go_values | go_skip | go_guarded | go_step | go_upon | go_back)
    obtain ⟨b0, hb0⟩ : ∃ b, b = w.heap.size := ⟨_, rfl⟩
    obtain ⟨W, hW⟩ : ∃ W, W = w.alloc (Obj.cells #[.int .i64 op, .int .i64 rd, .int .i64 r1, .int .i64 r2, .int .i64 v] 40) := ⟨_, rfl⟩
    rw [← hW, ← hb0]
    have hX : Row W b0 (insnA op rd r1 r2 v) 40 := by rw [hW]; exact Row.new_at _ _ _ hb0
    have HG := Lib.hid (show Grows w W by rw [hW]; exact (Grows.refl _).alloc _)
    clear hW hb0
    have x0 : World.cell? W ⟨b0, 0, none⟩ = some (.int .i64 op) := hX.cell 0
    have x1 : World.cell? W ⟨b0, 1, none⟩ = some (.int .i64 rd) := hX.cell 1
    have x2 : World.cell? W ⟨b0, 2, none⟩ = some (.int .i64 r1) := hX.cell 2
    have x3 : World.cell? W ⟨b0, 3, none⟩ = some (.int .i64 r2) := hX.cell 3
    have x4 : World.cell? W ⟨b0, 4, none⟩ = some (.int .i64 v) := hX.cell 4
    have lx := hX.lt
    go_wp2_with fail
    refine (hen _).mono ?_
    rintro _ w1 ⟨rfl, g1, rfl⟩
    obtain ⟨W1, hWn⟩ : ∃ WW, WW = World.grow W g1 := ⟨_, rfl⟩
    rw [← hWn]
    replace hX : Row W1 b0 (insnA op rd r1 r2 v) 40 := by rw [hWn]; exact hX.grows (Grows.of W _)
    replace HG := Lib.hid (show Grows w W1 by rw [hWn]; exact HG.out.grow _)
    clear hWn x0 x1 x2 x3 x4 lx
    have x0 : World.cell? W1 ⟨b0, 0, none⟩ = some (.int .i64 op) := hX.cell 0
    have x1 : World.cell? W1 ⟨b0, 1, none⟩ = some (.int .i64 rd) := hX.cell 1
    have x2 : World.cell? W1 ⟨b0, 2, none⟩ = some (.int .i64 r1) := hX.cell 2
    have x3 : World.cell? W1 ⟨b0, 3, none⟩ = some (.int .i64 r2) := hX.cell 3
    have x4 : World.cell? W1 ⟨b0, 4, none⟩ = some (.int .i64 v) := hX.cell 4
    have lx := hX.lt
    go_wp2_with fail
    refine (hren _).mono ?_
    rintro _ w1 ⟨rfl, g2, rfl⟩
    obtain ⟨W2, hWn⟩ : ∃ WW, WW = World.grow W1 g2 := ⟨_, rfl⟩
    rw [← hWn]
    replace hX : Row W2 b0 (insnA op rd r1 r2 v) 40 := by rw [hWn]; exact hX.grows (Grows.of W1 _)
    replace HG := Lib.hid (show Grows w W2 by rw [hWn]; exact HG.out.grow _)
    clear hWn x0 x1 x2 x3 x4 lx
    have x0 : World.cell? W2 ⟨b0, 0, none⟩ = some (.int .i64 op) := hX.cell 0
    have x1 : World.cell? W2 ⟨b0, 1, none⟩ = some (.int .i64 rd) := hX.cell 1
    have x2 : World.cell? W2 ⟨b0, 2, none⟩ = some (.int .i64 r1) := hX.cell 2
    have x3 : World.cell? W2 ⟨b0, 3, none⟩ = some (.int .i64 r2) := hX.cell 3
    have x4 : World.cell? W2 ⟨b0, 4, none⟩ = some (.int .i64 v) := hX.cell 4
    have lx := hX.lt
    go_wp2_with fail
    refine (hsh _).mono ?_
    rintro _ w1 ⟨rfl, g3, rfl⟩
    obtain ⟨W3, hWn⟩ : ∃ WW, WW = World.grow W2 g3 := ⟨_, rfl⟩
    rw [← hWn]
    replace hX : Row W3 b0 (insnA op rd r1 r2 v) 40 := by rw [hWn]; exact hX.grows (Grows.of W2 _)
    replace HG := Lib.hid (show Grows w W3 by rw [hWn]; exact HG.out.grow _)
    clear hWn x0 x1 x2 x3 x4 lx
    have x0 : World.cell? W3 ⟨b0, 0, none⟩ = some (.int .i64 op) := hX.cell 0
    have x1 : World.cell? W3 ⟨b0, 1, none⟩ = some (.int .i64 rd) := hX.cell 1
    have x2 : World.cell? W3 ⟨b0, 2, none⟩ = some (.int .i64 r1) := hX.cell 2
    have x3 : World.cell? W3 ⟨b0, 3, none⟩ = some (.int .i64 r2) := hX.cell 3
    have x4 : World.cell? W3 ⟨b0, 4, none⟩ = some (.int .i64 v) := hX.cell 4
    have lx := hX.lt
    go_wp2_with fail
    refine (hrsh _).mono ?_
    rintro _ w1 ⟨rfl, g4, rfl⟩
    obtain ⟨W4, hWn⟩ : ∃ WW, WW = World.grow W3 g4 := ⟨_, rfl⟩
    rw [← hWn]
    replace hX : Row W4 b0 (insnA op rd r1 r2 v) 40 := by rw [hWn]; exact hX.grows (Grows.of W3 _)
    replace HG := Lib.hid (show Grows w W4 by rw [hWn]; exact HG.out.grow _)
    clear hWn x0 x1 x2 x3 x4 lx
    have x0 : World.cell? W4 ⟨b0, 0, none⟩ = some (.int .i64 op) := hX.cell 0
    have x1 : World.cell? W4 ⟨b0, 1, none⟩ = some (.int .i64 rd) := hX.cell 1
    have x2 : World.cell? W4 ⟨b0, 2, none⟩ = some (.int .i64 r1) := hX.cell 2
    have x3 : World.cell? W4 ⟨b0, 3, none⟩ = some (.int .i64 r2) := hX.cell 3
    have x4 : World.cell? W4 ⟨b0, 4, none⟩ = some (.int .i64 v) := hX.cell 4
    have lx := hX.lt
    go_wp2_with fail
    refine wp_region_grow (by kernel_rfl) (by kernel_rfl) ?_
    repeat (go_big_quiet_step ((first | (go_at_call 19; exact (hva _).mono (fun _ _ ⟨he, hw⟩ => ⟨he, (Grows.of _ _).trans hw⟩)) | (go_at_call 20; exact (hrva _).mono (fun _ _ ⟨he, hw⟩ => ⟨he, (Grows.of _ _).trans hw⟩)) | (go_at_call 21; exact (names_any _).mono (fun _ _ ⟨he, hw⟩ => ⟨he, (Grows.of _ _).trans hw⟩)))))
    refine wpQuiet_nil ?_
    intro _ hw'
    obtain ⟨g5, rfl⟩ := hw'
    go_wp2_with fail
    go_ret
    exact ⟨rfl, HG.out.grow _⟩
end Go.Proofs.Ytjbgamifkgeodaa
