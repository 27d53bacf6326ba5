/- The walk of InsnBack. -/
import Derived.Test.YtjbgamifkgeodaaInsnD
import Derived.Test.YtjbgamifkgeodaaInsnB
namespace Go.Proofs.Ytjbgamifkgeodaa
open Go Go.RowKit
set_option linter.unusedSimpArgs false
set_option linter.unusedVariables false
theorem enc_one (w : World) : Calls Try.prog 15 #[.agg #[.int .i64 14, .int .i64 1, .int .i64 2, .int .i64 0, .int .i64 (-1)]] w fun r w' => r = .returned (.tuple #[.int .u32 944259071, .int .i64 0]) ∧ Grows w w' :=
  encode_yes (op := 14) (rd := 1) (r1 := 2) (r2 := 0) (v := -1) (by decide) (by decide) w
theorem dec_parts {x : Int} (hx : 0 ≤ x ∧ x < 4294967296) (h : decB x = true) : ∃ A B C D E : Int,
    (∀ w, Calls Try.prog 22 #[.int .u32 x] w fun r w' => r = .returned (.tuple #[.agg #[.int .i64 A, .int .i64 B, .int .i64 C, .int .i64 D, .int .i64 E], .int .i64 0]) ∧ Grows w w') ∧
    (∀ w, Calls Try.prog 15 #[.agg #[.int .i64 A, .int .i64 B, .int .i64 C, .int .i64 D, .int .i64 E]] w fun r w' => r = .returned (.tuple #[.int .u32 x, .int .i64 0]) ∧ Grows w w') ∧
    (∀ w, Calls Try.prog 19 #[.agg #[.int .i64 A, .int .i64 B, .int .i64 C, .int .i64 D, .int .i64 E]] w fun r w' => r = .returned (.bool true) ∧ Grows w w') := by
  have hv : validB (dOp x) (dRd x) (dR1 x) (dR2 x) (dV x) = true := by
    unfold decB at h; rw [Bool.and_eq_true] at h; exact h.1
  have he : encW (dOp x) (dRd x) (dR1 x) (dR2 x) (dV x) = x := by
    unfold decB at h; rw [Bool.and_eq_true] at h; simpa using h.2
  refine ⟨dOp x, dRd x, dR1 x, dR2 x, dV x, decode_yes hx h, fun w => ?_, fun w => ?_⟩
  · have := encode_yes (wf_field x 26 6) hv w
    rw [show encW (fieldZ x 26 6) (dRd x) (dR1 x) (dR2 x) (dV x) = x from he] at this
    exact this
  · have := valid_any (dOp x) (dRd x) (dR1 x) (dR2 x) (dV x) (wf_field x 26 6) w
    rw [hv] at this
    exact this
set_option maxRecDepth 100000 in
set_option maxHeartbeats 4000000 in
theorem insnBack_walk (op : Int) (wo : (Lit.int .i64 op).wf = true) (rd : Int) (_ : (Lit.int .i64 rd).wf = true) (r1 : Int) (_ : (Lit.int .i64 r1).wf = true) (r2 : Int) (_ : (Lit.int .i64 r2).wf = true) (v : Int) (_ : (Lit.int .i64 v).wf = true) (x : Int) (wx : (Lit.int .u32 x).wf = true) (w : World) :
    Calls Try.prog 8 #[.agg #[.int .i64 op, .int .i64 rd, .int .i64 r1, .int .i64 r2, .int .i64 v], .int .u32 x] w fun r w' => r = .returned (.bool true) ∧ Grows w w' := by
  have hb := bounds_u32 wx
  have hx : 0 ≤ x ∧ x < 4294967296 := by omega
  clear hb
  cases hv : validB op rd r1 r2 v
  · have hen := fun w => encode_no wo hv w
    clear hv
    cases h : decB x
    · have hdw := fun w => decode_no hx h w
      clear h hx
      go_enter Try.func8, Try.ntmps8
      iterate 8 (first | go_values | go_skip | go_guarded | go_step | go_upon | go_back)
      obtain ⟨b0, hb0⟩ : ∃ b, b = w.heap.size := ⟨_, rfl⟩
      obtain ⟨W, hW⟩ : ∃ W, W = w.alloc (Obj.cells #[.int .i64 op, .int .i64 rd, .int .i64 r1, .int .i64 r2, .int .i64 v] 40) := ⟨_, rfl⟩
      rw [← hW, ← hb0]
      have hX : Row W b0 (insnA op rd r1 r2 v) 40 := by rw [hW]; exact Row.new_at _ _ _ hb0
      have HG := Lib.hid (show Grows w W by rw [hW]; exact (Grows.refl _).alloc _)
      clear hW hb0
      go_wp2_with fail
      refine (enc_one _).mono ?_
      rintro _ w1 ⟨rfl, g1, rfl⟩
      obtain ⟨W1, hWn⟩ : ∃ WW, WW = World.grow W g1 := ⟨_, rfl⟩
      rw [← hWn]
      replace hX : Row W1 b0 (insnA op rd r1 r2 v) 40 := by rw [hWn]; exact hX.grows (Grows.of W _)
      replace HG := Lib.hid (show Grows w W1 by rw [hWn]; exact HG.out.grow _)
      clear hWn
      have x0 : World.cell? W1 ⟨b0, 0, none⟩ = some (.int .i64 op) := hX.cell 0
      have x1 : World.cell? W1 ⟨b0, 1, none⟩ = some (.int .i64 rd) := hX.cell 1
      have x2 : World.cell? W1 ⟨b0, 2, none⟩ = some (.int .i64 r1) := hX.cell 2
      have x3 : World.cell? W1 ⟨b0, 3, none⟩ = some (.int .i64 r2) := hX.cell 3
      have x4 : World.cell? W1 ⟨b0, 4, none⟩ = some (.int .i64 v) := hX.cell 4
      have lx := hX.lt
      go_wp2_with fail
      clear x0 x1 x2 x3 x4 lx
      refine (hen _).mono ?_
      rintro _ w1 ⟨rfl, g2, rfl⟩
      obtain ⟨W2, hWn⟩ : ∃ WW, WW = World.grow W1 g2 := ⟨_, rfl⟩
      rw [← hWn]
      replace hX : Row W2 b0 (insnA op rd r1 r2 v) 40 := by rw [hWn]; exact hX.grows (Grows.of W1 _)
      replace HG := Lib.hid (show Grows w W2 by rw [hWn]; exact HG.out.grow _)
      clear hWn
      have x0 : World.cell? W2 ⟨b0, 0, none⟩ = some (.int .i64 op) := hX.cell 0
      have x1 : World.cell? W2 ⟨b0, 1, none⟩ = some (.int .i64 rd) := hX.cell 1
      have x2 : World.cell? W2 ⟨b0, 2, none⟩ = some (.int .i64 r1) := hX.cell 2
      have x3 : World.cell? W2 ⟨b0, 3, none⟩ = some (.int .i64 r2) := hX.cell 3
      have x4 : World.cell? W2 ⟨b0, 4, none⟩ = some (.int .i64 v) := hX.cell 4
      have lx := hX.lt
      go_wp2_with fail
      clear x0 x1 x2 x3 x4 lx
      refine (hdw _).mono ?_
      rintro _ w1 ⟨rfl, g4, rfl⟩
      go_wp2_with fail
      go_ret
      exact ⟨rfl, (HG.out.grow _).alloc _⟩
    · obtain ⟨A, B, C, D, E, hdw, hew, hvw⟩ := dec_parts hx h
      clear h hx
      go_enter Try.func8, Try.ntmps8
      iterate 8 (first | go_values | go_skip | go_guarded | go_step | go_upon | go_back)
      obtain ⟨b0, hb0⟩ : ∃ b, b = w.heap.size := ⟨_, rfl⟩
      obtain ⟨W, hW⟩ : ∃ W, W = w.alloc (Obj.cells #[.int .i64 op, .int .i64 rd, .int .i64 r1, .int .i64 r2, .int .i64 v] 40) := ⟨_, rfl⟩
      rw [← hW, ← hb0]
      have hX : Row W b0 (insnA op rd r1 r2 v) 40 := by rw [hW]; exact Row.new_at _ _ _ hb0
      have HG := Lib.hid (show Grows w W by rw [hW]; exact (Grows.refl _).alloc _)
      clear hW hb0
      go_wp2_with fail
      refine (enc_one _).mono ?_
      rintro _ w1 ⟨rfl, g1, rfl⟩
      obtain ⟨W1, hWn⟩ : ∃ WW, WW = World.grow W g1 := ⟨_, rfl⟩
      rw [← hWn]
      replace hX : Row W1 b0 (insnA op rd r1 r2 v) 40 := by rw [hWn]; exact hX.grows (Grows.of W _)
      replace HG := Lib.hid (show Grows w W1 by rw [hWn]; exact HG.out.grow _)
      clear hWn
      have x0 : World.cell? W1 ⟨b0, 0, none⟩ = some (.int .i64 op) := hX.cell 0
      have x1 : World.cell? W1 ⟨b0, 1, none⟩ = some (.int .i64 rd) := hX.cell 1
      have x2 : World.cell? W1 ⟨b0, 2, none⟩ = some (.int .i64 r1) := hX.cell 2
      have x3 : World.cell? W1 ⟨b0, 3, none⟩ = some (.int .i64 r2) := hX.cell 3
      have x4 : World.cell? W1 ⟨b0, 4, none⟩ = some (.int .i64 v) := hX.cell 4
      have lx := hX.lt
      go_wp2_with fail
      clear x0 x1 x2 x3 x4 lx
      refine (hen _).mono ?_
      rintro _ w1 ⟨rfl, g2, rfl⟩
      obtain ⟨W2, hWn⟩ : ∃ WW, WW = World.grow W1 g2 := ⟨_, rfl⟩
      rw [← hWn]
      replace hX : Row W2 b0 (insnA op rd r1 r2 v) 40 := by rw [hWn]; exact hX.grows (Grows.of W1 _)
      replace HG := Lib.hid (show Grows w W2 by rw [hWn]; exact HG.out.grow _)
      clear hWn
      have x0 : World.cell? W2 ⟨b0, 0, none⟩ = some (.int .i64 op) := hX.cell 0
      have x1 : World.cell? W2 ⟨b0, 1, none⟩ = some (.int .i64 rd) := hX.cell 1
      have x2 : World.cell? W2 ⟨b0, 2, none⟩ = some (.int .i64 r1) := hX.cell 2
      have x3 : World.cell? W2 ⟨b0, 3, none⟩ = some (.int .i64 r2) := hX.cell 3
      have x4 : World.cell? W2 ⟨b0, 4, none⟩ = some (.int .i64 v) := hX.cell 4
      have lx := hX.lt
      go_wp2_with fail
      clear x0 x1 x2 x3 x4 lx
      obtain ⟨V0, hV0⟩ : ∃ V, V = W2 := ⟨_, rfl⟩
      rw [← hV0]
      have HG0 := Lib.hid (show Grows w V0 by rw [hV0]; exact HG.out)
      clear hV0
      refine (hdw _).mono ?_
      rintro _ w1 ⟨rfl, g4, rfl⟩
      go_wp2_with fail
      refine (hew _).mono ?_
      rintro _ w1 ⟨rfl, g5, rfl⟩
      obtain ⟨b4, hb4⟩ : ∃ b, b = V0.heap.size + g4.size := ⟨_, rfl⟩
      rw [← hb4]
      obtain ⟨V1, hV1⟩ : ∃ V, V = ((V0.grow g4).alloc (Obj.cells #[.int .i64 A, .int .i64 B, .int .i64 C, .int .i64 D, .int .i64 E] 40)).grow g5 := ⟨_, rfl⟩
      rw [← hV1]
      have hY : Row V1 b4 (insnA A B C D E) 40 := by rw [hV1]; exact (Row.new_at _ _ _ (by rw [hb4]; simp)).grows (Grows.of _ _)
      have HG1 := Lib.hid (show Grows w V1 by rw [hV1]; exact ((HG0.out.grow _).alloc _).grow _)
      clear hV1 hb4 HG0
      have y0 : World.cell? V1 ⟨b4, 0, none⟩ = some (.int .i64 A) := hY.cell 0
      have y1 : World.cell? V1 ⟨b4, 1, none⟩ = some (.int .i64 B) := hY.cell 1
      have y2 : World.cell? V1 ⟨b4, 2, none⟩ = some (.int .i64 C) := hY.cell 2
      have y3 : World.cell? V1 ⟨b4, 3, none⟩ = some (.int .i64 D) := hY.cell 3
      have y4 : World.cell? V1 ⟨b4, 4, none⟩ = some (.int .i64 E) := hY.cell 4
      have ly := hY.lt
      go_wp2_with fail
      refine (hvw _).mono ?_
      rintro _ w1 ⟨rfl, g6, rfl⟩
      go_wp2_with fail
      go_ret
      exact ⟨rfl, HG1.out.grow _⟩
  · have hen := fun w => encode_yes wo hv w
    have hde := fun w => decode_yes (encW_lt hv) (decB_enc hv) w
    obtain ⟨e1, e2, e3, e4, e5⟩ := enc_back hv
    rw [e1, e2, e3, e4, e5] at hde
    obtain ⟨Q, hQ⟩ : ∃ Q, Q = encW op rd r1 r2 v := ⟨_, rfl⟩
    rw [← hQ] at hen hde
    clear hv e1 e2 e3 e4 e5 hQ
    cases h : decB x
    · have hdw := fun w => decode_no hx h w
      clear h hx
      go_enter Try.func8, Try.ntmps8
      iterate 8 (first | go_values | go_skip | go_guarded | go_step | go_upon | go_back)
      obtain ⟨b0, hb0⟩ : ∃ b, b = w.heap.size := ⟨_, rfl⟩
      obtain ⟨W, hW⟩ : ∃ W, W = w.alloc (Obj.cells #[.int .i64 op, .int .i64 rd, .int .i64 r1, .int .i64 r2, .int .i64 v] 40) := ⟨_, rfl⟩
      rw [← hW, ← hb0]
      have hX : Row W b0 (insnA op rd r1 r2 v) 40 := by rw [hW]; exact Row.new_at _ _ _ hb0
      have HG := Lib.hid (show Grows w W by rw [hW]; exact (Grows.refl _).alloc _)
      clear hW hb0
      go_wp2_with fail
      refine (enc_one _).mono ?_
      rintro _ w1 ⟨rfl, g1, rfl⟩
      obtain ⟨W1, hWn⟩ : ∃ WW, WW = World.grow W g1 := ⟨_, rfl⟩
      rw [← hWn]
      replace hX : Row W1 b0 (insnA op rd r1 r2 v) 40 := by rw [hWn]; exact hX.grows (Grows.of W _)
      replace HG := Lib.hid (show Grows w W1 by rw [hWn]; exact HG.out.grow _)
      clear hWn
      have x0 : World.cell? W1 ⟨b0, 0, none⟩ = some (.int .i64 op) := hX.cell 0
      have x1 : World.cell? W1 ⟨b0, 1, none⟩ = some (.int .i64 rd) := hX.cell 1
      have x2 : World.cell? W1 ⟨b0, 2, none⟩ = some (.int .i64 r1) := hX.cell 2
      have x3 : World.cell? W1 ⟨b0, 3, none⟩ = some (.int .i64 r2) := hX.cell 3
      have x4 : World.cell? W1 ⟨b0, 4, none⟩ = some (.int .i64 v) := hX.cell 4
      have lx := hX.lt
      go_wp2_with fail
      clear x0 x1 x2 x3 x4 lx
      refine (hen _).mono ?_
      rintro _ w1 ⟨rfl, g2, rfl⟩
      obtain ⟨W2, hWn⟩ : ∃ WW, WW = World.grow W1 g2 := ⟨_, rfl⟩
      rw [← hWn]
      replace hX : Row W2 b0 (insnA op rd r1 r2 v) 40 := by rw [hWn]; exact hX.grows (Grows.of W1 _)
      replace HG := Lib.hid (show Grows w W2 by rw [hWn]; exact HG.out.grow _)
      clear hWn
      have x0 : World.cell? W2 ⟨b0, 0, none⟩ = some (.int .i64 op) := hX.cell 0
      have x1 : World.cell? W2 ⟨b0, 1, none⟩ = some (.int .i64 rd) := hX.cell 1
      have x2 : World.cell? W2 ⟨b0, 2, none⟩ = some (.int .i64 r1) := hX.cell 2
      have x3 : World.cell? W2 ⟨b0, 3, none⟩ = some (.int .i64 r2) := hX.cell 3
      have x4 : World.cell? W2 ⟨b0, 4, none⟩ = some (.int .i64 v) := hX.cell 4
      have lx := hX.lt
      go_wp2_with fail
      clear x0 x1 x2 x3 x4 lx
      refine (hde _).mono ?_
      rintro _ w1 ⟨rfl, g3, rfl⟩
      obtain ⟨W3, hWn⟩ : ∃ WW, WW = World.grow W2 g3 := ⟨_, rfl⟩
      rw [← hWn]
      replace hX : Row W3 b0 (insnA op rd r1 r2 v) 40 := by rw [hWn]; exact hX.grows (Grows.of W2 _)
      replace HG := Lib.hid (show Grows w W3 by rw [hWn]; exact HG.out.grow _)
      clear hWn
      have x0 : World.cell? W3 ⟨b0, 0, none⟩ = some (.int .i64 op) := hX.cell 0
      have x1 : World.cell? W3 ⟨b0, 1, none⟩ = some (.int .i64 rd) := hX.cell 1
      have x2 : World.cell? W3 ⟨b0, 2, none⟩ = some (.int .i64 r1) := hX.cell 2
      have x3 : World.cell? W3 ⟨b0, 3, none⟩ = some (.int .i64 r2) := hX.cell 3
      have x4 : World.cell? W3 ⟨b0, 4, none⟩ = some (.int .i64 v) := hX.cell 4
      have lx := hX.lt
      go_wp2_with fail
      clear x0 x1 x2 x3 x4 lx
      clear hX hde hen
      refine (hdw _).mono ?_
      rintro _ w1 ⟨rfl, g4, rfl⟩
      go_wp2_with fail
      go_ret
      exact ⟨rfl, ((HG.out.alloc _).grow _).alloc _⟩
    · obtain ⟨A, B, C, D, E, hdw, hew, hvw⟩ := dec_parts hx h
      clear h hx
      go_enter Try.func8, Try.ntmps8
      iterate 8 (first | go_values | go_skip | go_guarded | go_step | go_upon | go_back)
      obtain ⟨b0, hb0⟩ : ∃ b, b = w.heap.size := ⟨_, rfl⟩
      obtain ⟨W, hW⟩ : ∃ W, W = w.alloc (Obj.cells #[.int .i64 op, .int .i64 rd, .int .i64 r1, .int .i64 r2, .int .i64 v] 40) := ⟨_, rfl⟩
      rw [← hW, ← hb0]
      have hX : Row W b0 (insnA op rd r1 r2 v) 40 := by rw [hW]; exact Row.new_at _ _ _ hb0
      have HG := Lib.hid (show Grows w W by rw [hW]; exact (Grows.refl _).alloc _)
      clear hW hb0
      go_wp2_with fail
      refine (enc_one _).mono ?_
      rintro _ w1 ⟨rfl, g1, rfl⟩
      obtain ⟨W1, hWn⟩ : ∃ WW, WW = World.grow W g1 := ⟨_, rfl⟩
      rw [← hWn]
      replace hX : Row W1 b0 (insnA op rd r1 r2 v) 40 := by rw [hWn]; exact hX.grows (Grows.of W _)
      replace HG := Lib.hid (show Grows w W1 by rw [hWn]; exact HG.out.grow _)
      clear hWn
      have x0 : World.cell? W1 ⟨b0, 0, none⟩ = some (.int .i64 op) := hX.cell 0
      have x1 : World.cell? W1 ⟨b0, 1, none⟩ = some (.int .i64 rd) := hX.cell 1
      have x2 : World.cell? W1 ⟨b0, 2, none⟩ = some (.int .i64 r1) := hX.cell 2
      have x3 : World.cell? W1 ⟨b0, 3, none⟩ = some (.int .i64 r2) := hX.cell 3
      have x4 : World.cell? W1 ⟨b0, 4, none⟩ = some (.int .i64 v) := hX.cell 4
      have lx := hX.lt
      go_wp2_with fail
      clear x0 x1 x2 x3 x4 lx
      refine (hen _).mono ?_
      rintro _ w1 ⟨rfl, g2, rfl⟩
      obtain ⟨W2, hWn⟩ : ∃ WW, WW = World.grow W1 g2 := ⟨_, rfl⟩
      rw [← hWn]
      replace hX : Row W2 b0 (insnA op rd r1 r2 v) 40 := by rw [hWn]; exact hX.grows (Grows.of W1 _)
      replace HG := Lib.hid (show Grows w W2 by rw [hWn]; exact HG.out.grow _)
      clear hWn
      have x0 : World.cell? W2 ⟨b0, 0, none⟩ = some (.int .i64 op) := hX.cell 0
      have x1 : World.cell? W2 ⟨b0, 1, none⟩ = some (.int .i64 rd) := hX.cell 1
      have x2 : World.cell? W2 ⟨b0, 2, none⟩ = some (.int .i64 r1) := hX.cell 2
      have x3 : World.cell? W2 ⟨b0, 3, none⟩ = some (.int .i64 r2) := hX.cell 3
      have x4 : World.cell? W2 ⟨b0, 4, none⟩ = some (.int .i64 v) := hX.cell 4
      have lx := hX.lt
      go_wp2_with fail
      clear x0 x1 x2 x3 x4 lx
      refine (hde _).mono ?_
      rintro _ w1 ⟨rfl, g3, rfl⟩
      obtain ⟨W3, hWn⟩ : ∃ WW, WW = World.grow W2 g3 := ⟨_, rfl⟩
      rw [← hWn]
      replace hX : Row W3 b0 (insnA op rd r1 r2 v) 40 := by rw [hWn]; exact hX.grows (Grows.of W2 _)
      replace HG := Lib.hid (show Grows w W3 by rw [hWn]; exact HG.out.grow _)
      clear hWn
      have x0 : World.cell? W3 ⟨b0, 0, none⟩ = some (.int .i64 op) := hX.cell 0
      have x1 : World.cell? W3 ⟨b0, 1, none⟩ = some (.int .i64 rd) := hX.cell 1
      have x2 : World.cell? W3 ⟨b0, 2, none⟩ = some (.int .i64 r1) := hX.cell 2
      have x3 : World.cell? W3 ⟨b0, 3, none⟩ = some (.int .i64 r2) := hX.cell 3
      have x4 : World.cell? W3 ⟨b0, 4, none⟩ = some (.int .i64 v) := hX.cell 4
      have lx := hX.lt
      go_wp2_with fail
      clear x0 x1 x2 x3 x4 lx
      clear hX hde hen
      obtain ⟨V0, hV0⟩ : ∃ V, V = (W3.alloc (Obj.cells #[.int .i64 op, .int .i64 rd, .int .i64 r1, .int .i64 r2, .int .i64 v] 40)) := ⟨_, rfl⟩
      rw [← hV0]
      have HG0 := Lib.hid (show Grows w V0 by rw [hV0]; exact HG.out.alloc _)
      clear hV0
      refine (hdw _).mono ?_
      rintro _ w1 ⟨rfl, g4, rfl⟩
      go_wp2_with fail
      refine (hew _).mono ?_
      rintro _ w1 ⟨rfl, g5, rfl⟩
      obtain ⟨b4, hb4⟩ : ∃ b, b = V0.heap.size + g4.size := ⟨_, rfl⟩
      rw [← hb4]
      obtain ⟨V1, hV1⟩ : ∃ V, V = ((V0.grow g4).alloc (Obj.cells #[.int .i64 A, .int .i64 B, .int .i64 C, .int .i64 D, .int .i64 E] 40)).grow g5 := ⟨_, rfl⟩
      rw [← hV1]
      have hY : Row V1 b4 (insnA A B C D E) 40 := by rw [hV1]; exact (Row.new_at _ _ _ (by rw [hb4]; simp)).grows (Grows.of _ _)
      have HG1 := Lib.hid (show Grows w V1 by rw [hV1]; exact ((HG0.out.grow _).alloc _).grow _)
      clear hV1 hb4 HG0
      have y0 : World.cell? V1 ⟨b4, 0, none⟩ = some (.int .i64 A) := hY.cell 0
      have y1 : World.cell? V1 ⟨b4, 1, none⟩ = some (.int .i64 B) := hY.cell 1
      have y2 : World.cell? V1 ⟨b4, 2, none⟩ = some (.int .i64 C) := hY.cell 2
      have y3 : World.cell? V1 ⟨b4, 3, none⟩ = some (.int .i64 D) := hY.cell 3
      have y4 : World.cell? V1 ⟨b4, 4, none⟩ = some (.int .i64 E) := hY.cell 4
      have ly := hY.lt
      go_wp2_with fail
      refine (hvw _).mono ?_
      rintro _ w1 ⟨rfl, g6, rfl⟩
      go_wp2_with fail
      go_ret
      exact ⟨rfl, HG1.out.grow _⟩
end Go.Proofs.Ytjbgamifkgeodaa
