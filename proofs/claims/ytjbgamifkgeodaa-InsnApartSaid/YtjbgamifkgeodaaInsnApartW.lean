/- The walk of InsnApart. -/
import Derived.Test.YtjbgamifkgeodaaInsnE
import Derived.Test.YtjbgamifkgeodaaInsnB
namespace Go.Proofs.Ytjbgamifkgeodaa
open Go Go.RowKit
set_option linter.unusedSimpArgs false
set_option linter.unusedVariables false
theorem enc_ecall (w : World) : Calls Try.prog 15 #[.agg #[.int .i64 42, .int .i64 0, .int .i64 0, .int .i64 0, .int .i64 0]] w fun r w' => r = .returned (.tuple #[.int .u32 2818572288, .int .i64 0]) ∧ Grows w w' :=
  encode_yes (op := 42) (rd := 0) (r1 := 0) (r2 := 0) (v := 0) (by decide) (by decide) w
theorem eq_insn (a b c d e a' b' c' d' e' : Int) (w : World) : (binOp .eql 40 (.agg #[.int .i64 a, .int .i64 b, .int .i64 c, .int .i64 d, .int .i64 e]) (.agg #[.int .i64 a', .int .i64 b', .int .i64 c', .int .i64 d', .int .i64 e'])).run Try.prog w = .ok (.bool (a == a' && b == b' && c == c' && d == d' && e == e')) w := by
  simp [go_sem]
  by_cases h1 : a = a' <;> by_cases h2 : b = b' <;> by_cases h3 : c = c' <;> by_cases h4 : d = d' <;> by_cases h5 : e = e' <;> simp [*]
set_option maxRecDepth 100000 in
set_option maxHeartbeats 4000000 in
theorem apart_law {op rd r1 r2 v op' rd' s1 s2 v' P Q E F : Int} {vx vy q : Bool} (hex : ∀ w, Calls Try.prog 15 #[.agg #[.int .i64 op, .int .i64 rd, .int .i64 r1, .int .i64 r2, .int .i64 v]] w fun r w' => r = .returned (.tuple #[.int .u32 P, .int .i64 E]) ∧ Grows w w')
    (hey : ∀ w, Calls Try.prog 15 #[.agg #[.int .i64 op', .int .i64 rd', .int .i64 s1, .int .i64 s2, .int .i64 v']] w fun r w' => r = .returned (.tuple #[.int .u32 Q, .int .i64 F]) ∧ Grows w w')
    (hvx : ∀ w, Calls Try.prog 19 #[.agg #[.int .i64 op, .int .i64 rd, .int .i64 r1, .int .i64 r2, .int .i64 v]] w fun r w' => r = .returned (.bool vx) ∧ Grows w w')
    (hvy : ∀ w, Calls Try.prog 19 #[.agg #[.int .i64 op', .int .i64 rd', .int .i64 s1, .int .i64 s2, .int .i64 v']] w fun r w' => r = .returned (.bool vy) ∧ Grows w w')
    (hq : ∀ w, (binOp .eql 40 (.agg #[.int .i64 op, .int .i64 rd, .int .i64 r1, .int .i64 r2, .int .i64 v]) (.agg #[.int .i64 op', .int .i64 rd', .int .i64 s1, .int .i64 s2, .int .i64 v'])).run Try.prog w = .ok (.bool q) w)
    (hE : (E = 0 ∧ vx = true) ∨ (E = 10 ∧ vx = false)) (hF : (F = 0 ∧ vy = true) ∨ (F = 10 ∧ vy = false)) (hPQ : E = 0 → F = 0 → (P == Q) = q) (w : World) :
    Calls Try.prog 6 #[.agg #[.int .i64 op, .int .i64 rd, .int .i64 r1, .int .i64 r2, .int .i64 v], .agg #[.int .i64 op', .int .i64 rd', .int .i64 s1, .int .i64 s2, .int .i64 v']] w fun r w' => r = .returned (.bool true) ∧ Grows w w' := by
  have hPQ' : (E = 0 ∧ F = 0 ∧ (P == Q) = q) ∨ E = 10 ∨ F = 10 := by
    rcases hE with ⟨h1, _⟩ | ⟨h1, _⟩
    · rcases hF with ⟨h2, _⟩ | ⟨h2, _⟩
      · exact Or.inl ⟨h1, h2, hPQ h1 h2⟩
      · exact Or.inr (Or.inr h2)
    · exact Or.inr (Or.inl h1)
  clear hPQ
  rcases hE with ⟨rfl, rfl⟩ | ⟨rfl, rfl⟩ <;> rcases hF with ⟨rfl, rfl⟩ | ⟨rfl, rfl⟩
  all_goals
    have HPQ := Lib.hid hPQ'
    have HQ := Lib.hid hq
    clear hPQ' hq
    go_enter Try.func6, Try.ntmps6
    iterate 8 (first | go_values | go_skip | go_guarded | go_step | go_upon | go_back)
    obtain ⟨b0, hb0⟩ : ∃ b, b = w.heap.size := ⟨_, rfl⟩
    obtain ⟨b1, hb1⟩ : ∃ b, b = w.heap.size + 1 := ⟨_, rfl⟩
    obtain ⟨W, hW⟩ : ∃ W, W = (w.alloc (Obj.cells #[.int .i64 op, .int .i64 rd, .int .i64 r1, .int .i64 r2, .int .i64 v] 40)).alloc (Obj.cells #[.int .i64 op', .int .i64 rd', .int .i64 s1, .int .i64 s2, .int .i64 v'] 40) := ⟨_, rfl⟩
    rw [← hW, ← hb1, ← hb0]
    have hX : Row W b0 (insnA op rd r1 r2 v) 40 := by rw [hW]; exact (Row.new_at _ _ _ hb0).grows ((Grows.refl _).alloc _)
    have hY : Row W b1 (insnA op' rd' s1 s2 v') 40 := by rw [hW]; exact Row.new_at _ _ _ (by rw [hb1]; simp)
    have HG := Lib.hid (show Grows w W by rw [hW]; exact ((Grows.refl _).alloc _).alloc _)
    clear hW hb0 hb1
    have x0 : World.cell? W ⟨b0, 0, none⟩ = some (.int .i64 op) := hX.cell 0
    have x1 : World.cell? W ⟨b0, 1, none⟩ = some (.int .i64 rd) := hX.cell 1
    have x2 : World.cell? W ⟨b0, 2, none⟩ = some (.int .i64 r1) := hX.cell 2
    have x3 : World.cell? W ⟨b0, 3, none⟩ = some (.int .i64 r2) := hX.cell 3
    have x4 : World.cell? W ⟨b0, 4, none⟩ = some (.int .i64 v) := hX.cell 4
    have lx := hX.lt
    have y0 : World.cell? W ⟨b1, 0, none⟩ = some (.int .i64 op') := hY.cell 0
    have y1 : World.cell? W ⟨b1, 1, none⟩ = some (.int .i64 rd') := hY.cell 1
    have y2 : World.cell? W ⟨b1, 2, none⟩ = some (.int .i64 s1) := hY.cell 2
    have y3 : World.cell? W ⟨b1, 3, none⟩ = some (.int .i64 s2) := hY.cell 3
    have y4 : World.cell? W ⟨b1, 4, none⟩ = some (.int .i64 v') := hY.cell 4
    have ly := hY.lt
    go_wp2_with fail
    clear x0 x1 x2 x3 x4 lx y0 y1 y2 y3 y4 ly
    refine (hex _).mono ?_
    rintro _ w1 ⟨rfl, g1, rfl⟩
    obtain ⟨W1, hWn⟩ : ∃ WW, WW = World.grow W g1 := ⟨_, rfl⟩
    rw [← hWn]
    replace hX : Row W1 b0 (insnA op rd r1 r2 v) 40 := by rw [hWn]; exact hX.grows (Grows.of W _)
    replace hY : Row W1 b1 (insnA op' rd' s1 s2 v') 40 := by rw [hWn]; exact hY.grows (Grows.of W _)
    replace HG := Lib.hid (show Grows w W1 by rw [hWn]; exact HG.out.grow _)
    clear hWn
    have x0 : World.cell? W1 ⟨b0, 0, none⟩ = some (.int .i64 op) := hX.cell 0
    have x1 : World.cell? W1 ⟨b0, 1, none⟩ = some (.int .i64 rd) := hX.cell 1
    have x2 : World.cell? W1 ⟨b0, 2, none⟩ = some (.int .i64 r1) := hX.cell 2
    have x3 : World.cell? W1 ⟨b0, 3, none⟩ = some (.int .i64 r2) := hX.cell 3
    have x4 : World.cell? W1 ⟨b0, 4, none⟩ = some (.int .i64 v) := hX.cell 4
    have lx := hX.lt
    have y0 : World.cell? W1 ⟨b1, 0, none⟩ = some (.int .i64 op') := hY.cell 0
    have y1 : World.cell? W1 ⟨b1, 1, none⟩ = some (.int .i64 rd') := hY.cell 1
    have y2 : World.cell? W1 ⟨b1, 2, none⟩ = some (.int .i64 s1) := hY.cell 2
    have y3 : World.cell? W1 ⟨b1, 3, none⟩ = some (.int .i64 s2) := hY.cell 3
    have y4 : World.cell? W1 ⟨b1, 4, none⟩ = some (.int .i64 v') := hY.cell 4
    have ly := hY.lt
    go_wp2_with fail
    clear x0 x1 x2 x3 x4 lx y0 y1 y2 y3 y4 ly
    refine (hey _).mono ?_
    rintro _ w1 ⟨rfl, g2, rfl⟩
    obtain ⟨W2, hWn⟩ : ∃ WW, WW = World.grow W1 g2 := ⟨_, rfl⟩
    rw [← hWn]
    replace hX : Row W2 b0 (insnA op rd r1 r2 v) 40 := by rw [hWn]; exact hX.grows (Grows.of W1 _)
    replace hY : Row W2 b1 (insnA op' rd' s1 s2 v') 40 := by rw [hWn]; exact hY.grows (Grows.of W1 _)
    replace HG := Lib.hid (show Grows w W2 by rw [hWn]; exact HG.out.grow _)
    clear hWn
    have x0 : World.cell? W2 ⟨b0, 0, none⟩ = some (.int .i64 op) := hX.cell 0
    have x1 : World.cell? W2 ⟨b0, 1, none⟩ = some (.int .i64 rd) := hX.cell 1
    have x2 : World.cell? W2 ⟨b0, 2, none⟩ = some (.int .i64 r1) := hX.cell 2
    have x3 : World.cell? W2 ⟨b0, 3, none⟩ = some (.int .i64 r2) := hX.cell 3
    have x4 : World.cell? W2 ⟨b0, 4, none⟩ = some (.int .i64 v) := hX.cell 4
    have lx := hX.lt
    have y0 : World.cell? W2 ⟨b1, 0, none⟩ = some (.int .i64 op') := hY.cell 0
    have y1 : World.cell? W2 ⟨b1, 1, none⟩ = some (.int .i64 rd') := hY.cell 1
    have y2 : World.cell? W2 ⟨b1, 2, none⟩ = some (.int .i64 s1) := hY.cell 2
    have y3 : World.cell? W2 ⟨b1, 3, none⟩ = some (.int .i64 s2) := hY.cell 3
    have y4 : World.cell? W2 ⟨b1, 4, none⟩ = some (.int .i64 v') := hY.cell 4
    have ly := hY.lt
    go_wp2_with fail
    clear x0 x1 x2 x3 x4 lx y0 y1 y2 y3 y4 ly
    refine (hvx _).mono ?_
    rintro _ w1 ⟨rfl, g3, rfl⟩
    obtain ⟨W3, hWn⟩ : ∃ WW, WW = World.grow W2 g3 := ⟨_, rfl⟩
    rw [← hWn]
    replace hX : Row W3 b0 (insnA op rd r1 r2 v) 40 := by rw [hWn]; exact hX.grows (Grows.of W2 _)
    replace hY : Row W3 b1 (insnA op' rd' s1 s2 v') 40 := by rw [hWn]; exact hY.grows (Grows.of W2 _)
    replace HG := Lib.hid (show Grows w W3 by rw [hWn]; exact HG.out.grow _)
    clear hWn
    have x0 : World.cell? W3 ⟨b0, 0, none⟩ = some (.int .i64 op) := hX.cell 0
    have x1 : World.cell? W3 ⟨b0, 1, none⟩ = some (.int .i64 rd) := hX.cell 1
    have x2 : World.cell? W3 ⟨b0, 2, none⟩ = some (.int .i64 r1) := hX.cell 2
    have x3 : World.cell? W3 ⟨b0, 3, none⟩ = some (.int .i64 r2) := hX.cell 3
    have x4 : World.cell? W3 ⟨b0, 4, none⟩ = some (.int .i64 v) := hX.cell 4
    have lx := hX.lt
    have y0 : World.cell? W3 ⟨b1, 0, none⟩ = some (.int .i64 op') := hY.cell 0
    have y1 : World.cell? W3 ⟨b1, 1, none⟩ = some (.int .i64 rd') := hY.cell 1
    have y2 : World.cell? W3 ⟨b1, 2, none⟩ = some (.int .i64 s1) := hY.cell 2
    have y3 : World.cell? W3 ⟨b1, 3, none⟩ = some (.int .i64 s2) := hY.cell 3
    have y4 : World.cell? W3 ⟨b1, 4, none⟩ = some (.int .i64 v') := hY.cell 4
    have ly := hY.lt
    go_wp2_with fail
    clear x0 x1 x2 x3 x4 lx y0 y1 y2 y3 y4 ly
    refine (hvy _).mono ?_
    rintro _ w1 ⟨rfl, g4, rfl⟩
    obtain ⟨W4, hWn⟩ : ∃ WW, WW = World.grow W3 g4 := ⟨_, rfl⟩
    rw [← hWn]
    replace hX : Row W4 b0 (insnA op rd r1 r2 v) 40 := by rw [hWn]; exact hX.grows (Grows.of W3 _)
    replace hY : Row W4 b1 (insnA op' rd' s1 s2 v') 40 := by rw [hWn]; exact hY.grows (Grows.of W3 _)
    replace HG := Lib.hid (show Grows w W4 by rw [hWn]; exact HG.out.grow _)
    clear hWn
    have x0 : World.cell? W4 ⟨b0, 0, none⟩ = some (.int .i64 op) := hX.cell 0
    have x1 : World.cell? W4 ⟨b0, 1, none⟩ = some (.int .i64 rd) := hX.cell 1
    have x2 : World.cell? W4 ⟨b0, 2, none⟩ = some (.int .i64 r1) := hX.cell 2
    have x3 : World.cell? W4 ⟨b0, 3, none⟩ = some (.int .i64 r2) := hX.cell 3
    have x4 : World.cell? W4 ⟨b0, 4, none⟩ = some (.int .i64 v) := hX.cell 4
    have lx := hX.lt
    have y0 : World.cell? W4 ⟨b1, 0, none⟩ = some (.int .i64 op') := hY.cell 0
    have y1 : World.cell? W4 ⟨b1, 1, none⟩ = some (.int .i64 rd') := hY.cell 1
    have y2 : World.cell? W4 ⟨b1, 2, none⟩ = some (.int .i64 s1) := hY.cell 2
    have y3 : World.cell? W4 ⟨b1, 3, none⟩ = some (.int .i64 s2) := hY.cell 3
    have y4 : World.cell? W4 ⟨b1, 4, none⟩ = some (.int .i64 v') := hY.cell 4
    have ly := hY.lt
    go_wp2_with fail
    clear x0 x1 x2 x3 x4 lx y0 y1 y2 y3 y4 ly
    refine (enc_ecall _).mono ?_
    rintro _ w1 ⟨rfl, g5, rfl⟩
    have hq := HQ.out
    have hPQ2 : (P == Q) = q ∨ True := Or.inr trivial
    clear hPQ2
    obtain ⟨W5, hWn⟩ : ∃ WW, WW = World.grow W4 g5 := ⟨_, rfl⟩
    rw [← hWn]
    replace hX : Row W5 b0 (insnA op rd r1 r2 v) 40 := by rw [hWn]; exact hX.grows (Grows.of W4 _)
    replace hY : Row W5 b1 (insnA op' rd' s1 s2 v') 40 := by rw [hWn]; exact hY.grows (Grows.of W4 _)
    replace HG := Lib.hid (show Grows w W5 by rw [hWn]; exact HG.out.grow _)
    clear hWn
    have x0 : World.cell? W5 ⟨b0, 0, none⟩ = some (.int .i64 op) := hX.cell 0
    have x1 : World.cell? W5 ⟨b0, 1, none⟩ = some (.int .i64 rd) := hX.cell 1
    have x2 : World.cell? W5 ⟨b0, 2, none⟩ = some (.int .i64 r1) := hX.cell 2
    have x3 : World.cell? W5 ⟨b0, 3, none⟩ = some (.int .i64 r2) := hX.cell 3
    have x4 : World.cell? W5 ⟨b0, 4, none⟩ = some (.int .i64 v) := hX.cell 4
    have lx := hX.lt
    have y0 : World.cell? W5 ⟨b1, 0, none⟩ = some (.int .i64 op') := hY.cell 0
    have y1 : World.cell? W5 ⟨b1, 1, none⟩ = some (.int .i64 rd') := hY.cell 1
    have y2 : World.cell? W5 ⟨b1, 2, none⟩ = some (.int .i64 s1) := hY.cell 2
    have y3 : World.cell? W5 ⟨b1, 3, none⟩ = some (.int .i64 s2) := hY.cell 3
    have y4 : World.cell? W5 ⟨b1, 4, none⟩ = some (.int .i64 v') := hY.cell 4
    have ly := hY.lt
    go_wp2_with fail
    clear x0 x1 x2 x3 x4 lx y0 y1 y2 y3 y4 ly
    go_ret
    refine ⟨?_, HG.out⟩
    first
      | rfl
      | (rcases HPQ.out with ⟨_, _, h⟩ | h | h
         · simp [h]
         · exact absurd h (by decide)
         · exact absurd h (by decide))
theorem insnApart_walk (op : Int) (wo : (Lit.int .i64 op).wf = true) (rd : Int) (_ : (Lit.int .i64 rd).wf = true) (r1 : Int) (_ : (Lit.int .i64 r1).wf = true) (r2 : Int) (_ : (Lit.int .i64 r2).wf = true) (v : Int) (_ : (Lit.int .i64 v).wf = true)
    (op' : Int) (wo' : (Lit.int .i64 op').wf = true) (rd' : Int) (_ : (Lit.int .i64 rd').wf = true) (s1 : Int) (_ : (Lit.int .i64 s1).wf = true) (s2 : Int) (_ : (Lit.int .i64 s2).wf = true) (v' : Int) (_ : (Lit.int .i64 v').wf = true) (w : World) :
    Calls Try.prog 6 #[.agg #[.int .i64 op, .int .i64 rd, .int .i64 r1, .int .i64 r2, .int .i64 v], .agg #[.int .i64 op', .int .i64 rd', .int .i64 s1, .int .i64 s2, .int .i64 v']] w fun r w' => r = .returned (.bool true) ∧ Grows w w' := by
  have hvx := fun w => valid_any op rd r1 r2 v wo w
  have hvy := fun w => valid_any op' rd' s1 s2 v' wo' w
  have hq := fun w => eq_insn op rd r1 r2 v op' rd' s1 s2 v' w
  cases h : validB op rd r1 r2 v
  · have hex := fun w => encode_no wo h w
    rw [h] at hvx
    cases h' : validB op' rd' s1 s2 v'
    · have hey := fun w => encode_no wo' h' w
      rw [h'] at hvy
      exact apart_law hex hey hvx hvy hq (Or.inr ⟨rfl, rfl⟩) (Or.inr ⟨rfl, rfl⟩) (fun e => absurd e (by decide)) w
    · have hey := fun w => encode_yes wo' h' w
      rw [h'] at hvy
      exact apart_law hex hey hvx hvy hq (Or.inr ⟨rfl, rfl⟩) (Or.inl ⟨rfl, rfl⟩) (fun e => absurd e (by decide)) w
  · have hex := fun w => encode_yes wo h w
    rw [h] at hvx
    cases h' : validB op' rd' s1 s2 v'
    · have hey := fun w => encode_no wo' h' w
      rw [h'] at hvy
      exact apart_law hex hey hvx hvy hq (Or.inl ⟨rfl, rfl⟩) (Or.inr ⟨rfl, rfl⟩) (fun _ e => absurd e (by decide)) w
    · have hey := fun w => encode_yes wo' h' w
      rw [h'] at hvy
      refine apart_law hex hey hvx hvy hq (Or.inl ⟨rfl, rfl⟩) (Or.inl ⟨rfl, rfl⟩) (fun _ _ => ?_) w
      rw [Bool.eq_iff_iff]
      simp only [beq_iff_eq, Bool.and_eq_true]
      constructor
      · intro e
        obtain ⟨e1, e2, e3, e4, e5⟩ := enc_inj h h' e
        exact ⟨⟨⟨⟨e1, e2⟩, e3⟩, e4⟩, e5⟩
      · rintro ⟨⟨⟨⟨rfl, rfl⟩, rfl⟩, rfl⟩, rfl⟩
        rfl
end Go.Proofs.Ytjbgamifkgeodaa
