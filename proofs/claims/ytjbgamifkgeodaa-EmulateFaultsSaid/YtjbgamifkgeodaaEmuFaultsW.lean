/- The walk of EmulateFaults. -/
import Derived.Test.YtjbgamifkgeodaaEmu
namespace Go.Proofs.Ytjbgamifkgeodaa
open Go Go.RowKit
set_option linter.unusedSimpArgs false
set_option linter.unusedVariables false
theorem eq_trap (c v g : Int) (w : World) : (binOp .eql 24 (.agg #[.int .i64 c, .int .u64 v, .int .u64 g]) (.agg #[.int .i64 c, .int .u64 v, .int .u64 g])).run Try.prog w = .ok (.bool true) w := by
  simp [go_sem]
theorem eq_four0 (w : World) : (binOp .eql 27 (.agg #[.int .u64 0, .int .u64 0, .int .u64 0, .int .u64 0]) (.agg #[.int .u64 0, .int .u64 0, .int .u64 0, .int .u64 0])).run Try.prog w = .ok (.bool true) w := by
  kernel_rfl
theorem field_pc (x : Int) (w : World) : (Instr.field 32 (.agg #[.int .u64 0, .int .u64 0, .int .u64 0, .int .u64 0, .int .u64 0, .int .u64 0, .int .u64 0, .int .u64 0, .int .u64 0, .int .u64 0, .int .u64 0, .int .u64 0, .int .u64 0, .int .u64 0, .int .u64 0, .int .u64 0, .int .u64 x, .int .i64 0]) 1).run Try.prog w = .ok (.int .u64 x) w := by kernel_rfl
set_option maxHeartbeats 2000000 in
theorem emulateFaults_walk (c : Int) (_ : (Lit.int .i64 c).wf = true) (v : Int) (_ : (Lit.int .u64 v).wf = true) (g : Int) (_ : (Lit.int .u64 g).wf = true) (w : World) :
    Calls Try.prog 3 #[.int .i64 c, .int .u64 v, .int .u64 g] w fun r w' => r = .returned (.bool true) ∧ Grows w w' := by
  by_cases h1 : c = 20
  · subst h1
    have e1 : faultC 20 = 1 := by simp [faultC, *]
    have q1 := eq_trap 1 v 0
    have q2 := eq_four0
    have q3 := field_pc
    go_enter Try.func3, Try.ntmps3
    go_wp2_with fail
    refine (fault_any _ _ _ _).mono ?_
    rintro _ w1 ⟨rfl, g1, rfl⟩
    rw [e1]
    go_wp2_with fail
    obtain ⟨W1, hW1⟩ : ∃ W, W = ((w.grow g1).alloc (Obj.cells #[.int .i64 1, .int .u64 v, .int .u64 0] 24)).alloc (Obj.cells #[.int .i64 1, .int .i64 5, .int .i64 0, .int .i64 7] 3) := ⟨_, rfl⟩
    rw [← hW1]
    obtain ⟨B1, hB1⟩ : ∃ B, B = w.heap.size + g1.size := ⟨_, rfl⟩
    rw [← hB1]
    have hg : Grows w W1 := by rw [hW1]; exact ((Grows.of _ _).alloc _).alloc _
    have hR : Row W1 B1 #[.int .i64 1, .int .u64 v, .int .u64 0] 24 := by
      rw [hW1]; first | exact (Row.new_at _ _ _ (by rw [hB1]; simp)) | exact (Row.new_at _ _ _ (by rw [hB1]; simp)).grows ((Grows.refl _).alloc _)
    clear hW1 hB1
    refine (call_any _ _ _ _ _ _ _ _ _ _ _ _ _ _ _ _ _ _ _).mono ?_
    rintro _ w2 ⟨rfl, g2, rfl⟩
    have cR := (hR.grows (Grows.of W1 g2)).cell
    have lR := (hR.grows (Grows.of W1 g2)).lt
    have HR := Lib.hid hR
    have HG := Lib.hid hg
    clear hR hg
    obtain ⟨W2, hW2⟩ : ∃ W, W = W1.grow g2 := ⟨_, rfl⟩
    have HW2 : Hid (Grows W1 W2) := Lib.hid (by rw [hW2]; exact Grows.of _ _)
    rw [← hW2]
    rw [← hW2] at cR lR
    clear hW2
    go_wp2_with fail
    refine (skip_any _ _ _ _ _ _ _ _ _ _ _ _ _ _ _ _ _ _ _).mono ?_
    rintro _ w3 ⟨rfl, g3, rfl⟩
    go_wp2_with fail
    go_ret
    exact ⟨by simp, ((((HG.out).trans HW2.out).alloc _).grow _)⟩
  by_cases h2 : c = 21
  · subst h2
    have e1 : faultC 21 = 5 := by simp [faultC, *]
    have q1 := eq_trap 5 v 0
    have q2 := eq_four0
    have q3 := field_pc
    go_enter Try.func3, Try.ntmps3
    go_wp2_with fail
    refine (fault_any _ _ _ _).mono ?_
    rintro _ w1 ⟨rfl, g1, rfl⟩
    rw [e1]
    go_wp2_with fail
    obtain ⟨W1, hW1⟩ : ∃ W, W = ((w.grow g1).alloc (Obj.cells #[.int .i64 5, .int .u64 v, .int .u64 0] 24)).alloc (Obj.cells #[.int .i64 1, .int .i64 5, .int .i64 0, .int .i64 7] 3) := ⟨_, rfl⟩
    rw [← hW1]
    obtain ⟨B1, hB1⟩ : ∃ B, B = w.heap.size + g1.size := ⟨_, rfl⟩
    rw [← hB1]
    have hg : Grows w W1 := by rw [hW1]; exact ((Grows.of _ _).alloc _).alloc _
    have hR : Row W1 B1 #[.int .i64 5, .int .u64 v, .int .u64 0] 24 := by
      rw [hW1]; first | exact (Row.new_at _ _ _ (by rw [hB1]; simp)) | exact (Row.new_at _ _ _ (by rw [hB1]; simp)).grows ((Grows.refl _).alloc _)
    clear hW1 hB1
    refine (call_any _ _ _ _ _ _ _ _ _ _ _ _ _ _ _ _ _ _ _).mono ?_
    rintro _ w2 ⟨rfl, g2, rfl⟩
    have cR := (hR.grows (Grows.of W1 g2)).cell
    have lR := (hR.grows (Grows.of W1 g2)).lt
    have HR := Lib.hid hR
    have HG := Lib.hid hg
    clear hR hg
    obtain ⟨W2, hW2⟩ : ∃ W, W = W1.grow g2 := ⟨_, rfl⟩
    have HW2 : Hid (Grows W1 W2) := Lib.hid (by rw [hW2]; exact Grows.of _ _)
    rw [← hW2]
    rw [← hW2] at cR lR
    clear hW2
    go_wp2_with fail
    refine (skip_any _ _ _ _ _ _ _ _ _ _ _ _ _ _ _ _ _ _ _).mono ?_
    rintro _ w3 ⟨rfl, g3, rfl⟩
    go_wp2_with fail
    go_ret
    exact ⟨by simp, ((((HG.out).trans HW2.out).alloc _).grow _)⟩
  by_cases h3 : c = 23
  · subst h3
    have e1 : faultC 23 = 7 := by simp [faultC, *]
    have q1 := eq_trap 7 v 0
    have q2 := eq_four0
    have q3 := field_pc
    go_enter Try.func3, Try.ntmps3
    go_wp2_with fail
    refine (fault_any _ _ _ _).mono ?_
    rintro _ w1 ⟨rfl, g1, rfl⟩
    rw [e1]
    go_wp2_with fail
    obtain ⟨W1, hW1⟩ : ∃ W, W = ((w.grow g1).alloc (Obj.cells #[.int .i64 7, .int .u64 v, .int .u64 0] 24)).alloc (Obj.cells #[.int .i64 1, .int .i64 5, .int .i64 0, .int .i64 7] 3) := ⟨_, rfl⟩
    rw [← hW1]
    obtain ⟨B1, hB1⟩ : ∃ B, B = w.heap.size + g1.size := ⟨_, rfl⟩
    rw [← hB1]
    have hg : Grows w W1 := by rw [hW1]; exact ((Grows.of _ _).alloc _).alloc _
    have hR : Row W1 B1 #[.int .i64 7, .int .u64 v, .int .u64 0] 24 := by
      rw [hW1]; first | exact (Row.new_at _ _ _ (by rw [hB1]; simp)) | exact (Row.new_at _ _ _ (by rw [hB1]; simp)).grows ((Grows.refl _).alloc _)
    clear hW1 hB1
    refine (call_any _ _ _ _ _ _ _ _ _ _ _ _ _ _ _ _ _ _ _).mono ?_
    rintro _ w2 ⟨rfl, g2, rfl⟩
    have cR := (hR.grows (Grows.of W1 g2)).cell
    have lR := (hR.grows (Grows.of W1 g2)).lt
    have HR := Lib.hid hR
    have HG := Lib.hid hg
    clear hR hg
    obtain ⟨W2, hW2⟩ : ∃ W, W = W1.grow g2 := ⟨_, rfl⟩
    have HW2 : Hid (Grows W1 W2) := Lib.hid (by rw [hW2]; exact Grows.of _ _)
    rw [← hW2]
    rw [← hW2] at cR lR
    clear hW2
    go_wp2_with fail
    refine (skip_any _ _ _ _ _ _ _ _ _ _ _ _ _ _ _ _ _ _ _).mono ?_
    rintro _ w3 ⟨rfl, g3, rfl⟩
    go_wp2_with fail
    go_ret
    exact ⟨by simp, ((((HG.out).trans HW2.out).alloc _).grow _)⟩
  · have k1 : (c == 20) = false := by simp [h1]
    have k2 : (c == 21) = false := by simp [h2]
    have k3 : (c == 23) = false := by simp [h3]
    have e1 : faultC c = c := by simp [faultC, *]
    have q1 := eq_trap c v 0
    have q2 := eq_four0
    have q3 := field_pc
    go_enter Try.func3, Try.ntmps3
    go_wp2_with fail
    refine (fault_any _ _ _ _).mono ?_
    rintro _ w1 ⟨rfl, g1, rfl⟩
    rw [e1]
    go_wp2_with fail
    obtain ⟨W1, hW1⟩ : ∃ W, W = (w.grow g1).alloc (Obj.cells #[.int .i64 c, .int .u64 v, .int .u64 0] 24) := ⟨_, rfl⟩
    rw [← hW1]
    obtain ⟨B1, hB1⟩ : ∃ B, B = w.heap.size + g1.size := ⟨_, rfl⟩
    rw [← hB1]
    have hg : Grows w W1 := by rw [hW1]; exact (Grows.of _ _).alloc _
    have hR : Row W1 B1 #[.int .i64 c, .int .u64 v, .int .u64 0] 24 := by
      rw [hW1]; first | exact (Row.new_at _ _ _ (by rw [hB1]; simp)) | exact (Row.new_at _ _ _ (by rw [hB1]; simp)).grows ((Grows.refl _).alloc _)
    clear hW1 hB1
    refine (call_any _ _ _ _ _ _ _ _ _ _ _ _ _ _ _ _ _ _ _).mono ?_
    rintro _ w2 ⟨rfl, g2, rfl⟩
    have cR := (hR.grows (Grows.of W1 g2)).cell
    have lR := (hR.grows (Grows.of W1 g2)).lt
    have HR := Lib.hid hR
    have HG := Lib.hid hg
    clear hR hg
    obtain ⟨W2, hW2⟩ : ∃ W, W = W1.grow g2 := ⟨_, rfl⟩
    have HW2 : Hid (Grows W1 W2) := Lib.hid (by rw [hW2]; exact Grows.of _ _)
    rw [← hW2]
    rw [← hW2] at cR lR
    clear hW2
    go_wp2_with fail
    refine (skip_any _ _ _ _ _ _ _ _ _ _ _ _ _ _ _ _ _ _ _).mono ?_
    rintro _ w3 ⟨rfl, g3, rfl⟩
    go_wp2_with fail
    go_ret
    exact ⟨by simp, ((((HG.out).trans HW2.out).alloc _).grow _)⟩
end Go.Proofs.Ytjbgamifkgeodaa
