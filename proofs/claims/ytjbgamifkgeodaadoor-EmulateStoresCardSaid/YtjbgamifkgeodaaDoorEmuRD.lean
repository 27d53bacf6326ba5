/- The reference's Decode of the package emulate. -/
import Derived.Test.YtjbgamifkgeodaaDoorEmuD
namespace Go.Proofs.YtjbgamifkgeodaaDoor
open Go Go.RowKit
set_option linter.unusedSimpArgs false
set_option linter.unusedVariables false
section
variable {R : Array Value} {x op rd r1 r2 v Z : Int} (hd : ∀ w, Calls Tryd.prog 14 #[.int .u32 x] w fun r w' => r = .returned (.tuple #[.agg #[.int .i64 op, .int .i64 rd, .int .i64 r1, .int .i64 r2, .int .i64 v], .int .i64 Z]) ∧ Grows w w')
include hd
set_option maxRecDepth 100000 in
set_option maxHeartbeats 2000000 in
theorem rdec_no (h : Z ≠ 0 ∨ op < 23 ∨ 28 < op) (w : World) :
    Calls Tryd.prog 6 #[.int .u32 x, .agg R] w fun r w' => r = .returned (.tuple #[.agg #[.bool false, .int .i64 0, .int .i64 0, .int .u64 0], .int .i64 10]) ∧ Grows w w' := by
  by_cases hZ : Z = 0
  · subst hZ
    by_cases h1 : op < 23
    · clear h
      go_enter Tryd.func6, Tryd.ntmps6
      go_wp2_with fail
      obtain ⟨W, hW⟩ : ∃ W, W = (w.alloc (Obj.cells R 26)).alloc (Obj.cells #[.bool false, .int .i64 0, .int .i64 0, .int .u64 0] 32) := ⟨_, rfl⟩
      obtain ⟨b3, hb3⟩ : ∃ b, b = w.heap.size := ⟨_, rfl⟩
      obtain ⟨b4, hb4⟩ : ∃ b, b = w.heap.size + 1 := ⟨_, rfl⟩
      rw [← hW, ← hb4, ← hb3]
      have hG0 : Grows w W := by rw [hW]; exact ((Grows.refl _).alloc _).alloc _
      have hR0 : Row W b3 R 26 := by rw [hW]; exact (Row.new_at _ _ _ hb3).grows ((Grows.refl _).alloc _)
      have hA0 : Row W b4 #[.bool false, .int .i64 0, .int .i64 0, .int .u64 0] 32 := by rw [hW]; exact Row.new_at _ _ _ (by rw [hb4]; simp)
      have hn34 : b3 ≠ b4 ∧ w.heap.size ≤ b3 ∧ w.heap.size ≤ b4 := by omega
      clear hW hb3 hb4
      refine (hd W).mono ?_
      rintro _ w1 ⟨rfl, hg1⟩
      have HN := Lib.hid hn34
      have HG1 := Lib.hid (hG0.trans hg1)
      have HR1 := Lib.hid (hR0.grows hg1)
      have HA1 := Lib.hid (hA0.grows hg1)
      clear hG0 hR0 hA0 hn34 hg1
      have z0 : World.cell? w1 ⟨b4, 0, none⟩ = some (.bool false) := (HA1).out.cell 0
      have z1 : World.cell? w1 ⟨b4, 1, none⟩ = some (.int .i64 0) := (HA1).out.cell 1
      have z2 : World.cell? w1 ⟨b4, 2, none⟩ = some (.int .i64 0) := (HA1).out.cell 2
      have z3 : World.cell? w1 ⟨b4, 3, none⟩ = some (.int .u64 0) := (HA1).out.cell 3
      have y0 := (HA1).out.frozen 0
      have y1 := (HA1).out.frozen 1
      have y2 := (HA1).out.frozen 2
      have y3 := (HA1).out.frozen 3
      have ly := (HA1).out.lt
      go_wp2_with fail
      have hF := ((Row.set (Row.set (Row.set (Row.set HA1.out 0 (.bool false)) 1 (.int .i64 0)) 2 (.int .i64 0)) 3 (.int .u64 0)).grows ((Grows.refl _).alloc (Obj.cells #[.int .i64 op, .int .i64 rd, .int .i64 r1, .int .i64 r2, .int .i64 v] 41))).cell
      have hGF := ((((HG1.out.setCell (p := ⟨b4, 0, none⟩) HN.out.2.2 (.bool false)).setCell (p := ⟨b4, 1, none⟩) HN.out.2.2 (.int .i64 0)).setCell (p := ⟨b4, 2, none⟩) HN.out.2.2 (.int .i64 0)).setCell (p := ⟨b4, 3, none⟩) HN.out.2.2 (.int .u64 0)).alloc (Obj.cells #[.int .i64 op, .int .i64 rd, .int .i64 r1, .int .i64 r2, .int .i64 v] 41)
      exact bodyPost_ret (v := .tuple #[.agg #[.bool false, .int .i64 0, .int .i64 0, .int .u64 0], .int .i64 10]) (by simp [results, Tryd.results6, go_sem, hF]) rfl ⟨rfl, hGF⟩
    · have h2 : 28 < op := by rcases h with h | h | h; exact absurd rfl h; exact absurd h h1; exact h
      clear h
      go_enter Tryd.func6, Tryd.ntmps6
      go_wp2_with fail
      obtain ⟨W, hW⟩ : ∃ W, W = (w.alloc (Obj.cells R 26)).alloc (Obj.cells #[.bool false, .int .i64 0, .int .i64 0, .int .u64 0] 32) := ⟨_, rfl⟩
      obtain ⟨b3, hb3⟩ : ∃ b, b = w.heap.size := ⟨_, rfl⟩
      obtain ⟨b4, hb4⟩ : ∃ b, b = w.heap.size + 1 := ⟨_, rfl⟩
      rw [← hW, ← hb4, ← hb3]
      have hG0 : Grows w W := by rw [hW]; exact ((Grows.refl _).alloc _).alloc _
      have hR0 : Row W b3 R 26 := by rw [hW]; exact (Row.new_at _ _ _ hb3).grows ((Grows.refl _).alloc _)
      have hA0 : Row W b4 #[.bool false, .int .i64 0, .int .i64 0, .int .u64 0] 32 := by rw [hW]; exact Row.new_at _ _ _ (by rw [hb4]; simp)
      have hn34 : b3 ≠ b4 ∧ w.heap.size ≤ b3 ∧ w.heap.size ≤ b4 := by omega
      clear hW hb3 hb4
      refine (hd W).mono ?_
      rintro _ w1 ⟨rfl, hg1⟩
      have HN := Lib.hid hn34
      have HG1 := Lib.hid (hG0.trans hg1)
      have HR1 := Lib.hid (hR0.grows hg1)
      have HA1 := Lib.hid (hA0.grows hg1)
      clear hG0 hR0 hA0 hn34 hg1
      have z0 : World.cell? w1 ⟨b4, 0, none⟩ = some (.bool false) := (HA1).out.cell 0
      have z1 : World.cell? w1 ⟨b4, 1, none⟩ = some (.int .i64 0) := (HA1).out.cell 1
      have z2 : World.cell? w1 ⟨b4, 2, none⟩ = some (.int .i64 0) := (HA1).out.cell 2
      have z3 : World.cell? w1 ⟨b4, 3, none⟩ = some (.int .u64 0) := (HA1).out.cell 3
      have y0 := (HA1).out.frozen 0
      have y1 := (HA1).out.frozen 1
      have y2 := (HA1).out.frozen 2
      have y3 := (HA1).out.frozen 3
      have ly := (HA1).out.lt
      go_wp2_with fail
      have hF := ((Row.set (Row.set (Row.set (Row.set HA1.out 0 (.bool false)) 1 (.int .i64 0)) 2 (.int .i64 0)) 3 (.int .u64 0)).grows ((Grows.refl _).alloc (Obj.cells #[.int .i64 op, .int .i64 rd, .int .i64 r1, .int .i64 r2, .int .i64 v] 41))).cell
      have hGF := ((((HG1.out.setCell (p := ⟨b4, 0, none⟩) HN.out.2.2 (.bool false)).setCell (p := ⟨b4, 1, none⟩) HN.out.2.2 (.int .i64 0)).setCell (p := ⟨b4, 2, none⟩) HN.out.2.2 (.int .i64 0)).setCell (p := ⟨b4, 3, none⟩) HN.out.2.2 (.int .u64 0)).alloc (Obj.cells #[.int .i64 op, .int .i64 rd, .int .i64 r1, .int .i64 r2, .int .i64 v] 41)
      exact bodyPost_ret (v := .tuple #[.agg #[.bool false, .int .i64 0, .int .i64 0, .int .u64 0], .int .i64 10]) (by simp [results, Tryd.results6, go_sem, hF]) rfl ⟨rfl, hGF⟩
  · have hZb : (Z != 0) = true := by simp; exact hZ
    clear h hZ
    go_enter Tryd.func6, Tryd.ntmps6
    go_wp2_with fail
    obtain ⟨W, hW⟩ : ∃ W, W = (w.alloc (Obj.cells R 26)).alloc (Obj.cells #[.bool false, .int .i64 0, .int .i64 0, .int .u64 0] 32) := ⟨_, rfl⟩
    obtain ⟨b3, hb3⟩ : ∃ b, b = w.heap.size := ⟨_, rfl⟩
    obtain ⟨b4, hb4⟩ : ∃ b, b = w.heap.size + 1 := ⟨_, rfl⟩
    rw [← hW, ← hb4, ← hb3]
    have hG0 : Grows w W := by rw [hW]; exact ((Grows.refl _).alloc _).alloc _
    have hR0 : Row W b3 R 26 := by rw [hW]; exact (Row.new_at _ _ _ hb3).grows ((Grows.refl _).alloc _)
    have hA0 : Row W b4 #[.bool false, .int .i64 0, .int .i64 0, .int .u64 0] 32 := by rw [hW]; exact Row.new_at _ _ _ (by rw [hb4]; simp)
    have hn34 : b3 ≠ b4 ∧ w.heap.size ≤ b3 ∧ w.heap.size ≤ b4 := by omega
    clear hW hb3 hb4
    refine (hd W).mono ?_
    rintro _ w1 ⟨rfl, hg1⟩
    have HN := Lib.hid hn34
    have HG1 := Lib.hid (hG0.trans hg1)
    have HR1 := Lib.hid (hR0.grows hg1)
    have HA1 := Lib.hid (hA0.grows hg1)
    clear hG0 hR0 hA0 hn34 hg1
    have z0 : World.cell? w1 ⟨b4, 0, none⟩ = some (.bool false) := (HA1).out.cell 0
    have z1 : World.cell? w1 ⟨b4, 1, none⟩ = some (.int .i64 0) := (HA1).out.cell 1
    have z2 : World.cell? w1 ⟨b4, 2, none⟩ = some (.int .i64 0) := (HA1).out.cell 2
    have z3 : World.cell? w1 ⟨b4, 3, none⟩ = some (.int .u64 0) := (HA1).out.cell 3
    have y0 := (HA1).out.frozen 0
    have y1 := (HA1).out.frozen 1
    have y2 := (HA1).out.frozen 2
    have y3 := (HA1).out.frozen 3
    have ly := (HA1).out.lt
    go_wp2_with fail
    have hF := ((Row.set (Row.set (Row.set (Row.set HA1.out 0 (.bool false)) 1 (.int .i64 0)) 2 (.int .i64 0)) 3 (.int .u64 0)).grows ((Grows.refl _).alloc (Obj.cells #[.int .i64 op, .int .i64 rd, .int .i64 r1, .int .i64 r2, .int .i64 v] 41))).cell
    have hGF := ((((HG1.out.setCell (p := ⟨b4, 0, none⟩) HN.out.2.2 (.bool false)).setCell (p := ⟨b4, 1, none⟩) HN.out.2.2 (.int .i64 0)).setCell (p := ⟨b4, 2, none⟩) HN.out.2.2 (.int .i64 0)).setCell (p := ⟨b4, 3, none⟩) HN.out.2.2 (.int .u64 0)).alloc (Obj.cells #[.int .i64 op, .int .i64 rd, .int .i64 r1, .int .i64 r2, .int .i64 v] 41)
    exact bodyPost_ret (v := .tuple #[.agg #[.bool false, .int .i64 0, .int .i64 0, .int .u64 0], .int .i64 10]) (by simp [results, Tryd.results6, go_sem, hF]) rfl ⟨rfl, hGF⟩
set_option maxRecDepth 100000 in
set_option maxHeartbeats 2000000 in
theorem rdec_23 (hop : op = 23) (hZ : Z = 0) (w : World) :
    Calls Tryd.prog 6 #[.int .u32 x, .agg R] w fun r w' => r = .returned (.tuple #[.agg #[.bool false, .int .i64 8, .int .i64 rd, .int .u64 0], .int .i64 0]) ∧ Grows w w' := by
  subst hop hZ
  go_enter Tryd.func6, Tryd.ntmps6
  go_wp2_with fail
  obtain ⟨W, hW⟩ : ∃ W, W = (w.alloc (Obj.cells R 26)).alloc (Obj.cells #[.bool false, .int .i64 0, .int .i64 0, .int .u64 0] 32) := ⟨_, rfl⟩
  obtain ⟨b3, hb3⟩ : ∃ b, b = w.heap.size := ⟨_, rfl⟩
  obtain ⟨b4, hb4⟩ : ∃ b, b = w.heap.size + 1 := ⟨_, rfl⟩
  rw [← hW, ← hb4, ← hb3]
  have hG0 : Grows w W := by rw [hW]; exact ((Grows.refl _).alloc _).alloc _
  have hR0 : Row W b3 R 26 := by rw [hW]; exact (Row.new_at _ _ _ hb3).grows ((Grows.refl _).alloc _)
  have hA0 : Row W b4 #[.bool false, .int .i64 0, .int .i64 0, .int .u64 0] 32 := by rw [hW]; exact Row.new_at _ _ _ (by rw [hb4]; simp)
  have hn34 : b3 ≠ b4 ∧ w.heap.size ≤ b3 ∧ w.heap.size ≤ b4 := by omega
  clear hW hb3 hb4
  refine (hd W).mono ?_
  rintro _ w1 ⟨rfl, hg1⟩
  have HN := Lib.hid hn34
  have HG1 := Lib.hid (hG0.trans hg1)
  have HR1 := Lib.hid (hR0.grows hg1)
  have HA1 := Lib.hid (hA0.grows hg1)
  clear hG0 hR0 hA0 hn34 hg1
  have z0 : World.cell? w1 ⟨b4, 0, none⟩ = some (.bool false) := (HA1).out.cell 0
  have z1 : World.cell? w1 ⟨b4, 1, none⟩ = some (.int .i64 0) := (HA1).out.cell 1
  have z2 : World.cell? w1 ⟨b4, 2, none⟩ = some (.int .i64 0) := (HA1).out.cell 2
  have z3 : World.cell? w1 ⟨b4, 3, none⟩ = some (.int .u64 0) := (HA1).out.cell 3
  have y0 := (HA1).out.frozen 0
  have y1 := (HA1).out.frozen 1
  have y2 := (HA1).out.frozen 2
  have y3 := (HA1).out.frozen 3
  have ly := (HA1).out.lt
  go_wp2_with fail
  have hF := (((Row.set (Row.set (Row.set (Row.set HA1.out 0 (.bool false)) 1 (.int .i64 8)) 2 (.int .i64 rd)) 3 (.int .u64 0)).grows ((Grows.refl _).alloc (Obj.cells #[.int .i64 23, .int .i64 rd, .int .i64 r1, .int .i64 r2, .int .i64 v] 41))).grows ((Grows.refl _).alloc (Obj.cells #[.int .i64 8, .int .i64 4, .int .i64 1] 3))).cell
  have hGF := (((((HG1.out.setCell (p := ⟨b4, 0, none⟩) HN.out.2.2 (.bool false)).setCell (p := ⟨b4, 1, none⟩) HN.out.2.2 (.int .i64 8)).setCell (p := ⟨b4, 2, none⟩) HN.out.2.2 (.int .i64 rd)).setCell (p := ⟨b4, 3, none⟩) HN.out.2.2 (.int .u64 0)).alloc (Obj.cells #[.int .i64 23, .int .i64 rd, .int .i64 r1, .int .i64 r2, .int .i64 v] 41)).alloc (Obj.cells #[.int .i64 8, .int .i64 4, .int .i64 1] 3)
  exact bodyPost_ret (v := .tuple #[.agg #[.bool false, .int .i64 8, .int .i64 rd, .int .u64 0], .int .i64 0]) (by simp [results, Tryd.results6, go_sem, hF]) rfl ⟨rfl, hGF⟩
set_option maxRecDepth 100000 in
set_option maxHeartbeats 2000000 in
theorem rdec_24 (hop : op = 24) (hZ : Z = 0) (w : World) :
    Calls Tryd.prog 6 #[.int .u32 x, .agg R] w fun r w' => r = .returned (.tuple #[.agg #[.bool false, .int .i64 4, .int .i64 rd, .int .u64 0], .int .i64 0]) ∧ Grows w w' := by
  subst hop hZ
  go_enter Tryd.func6, Tryd.ntmps6
  go_wp2_with fail
  obtain ⟨W, hW⟩ : ∃ W, W = (w.alloc (Obj.cells R 26)).alloc (Obj.cells #[.bool false, .int .i64 0, .int .i64 0, .int .u64 0] 32) := ⟨_, rfl⟩
  obtain ⟨b3, hb3⟩ : ∃ b, b = w.heap.size := ⟨_, rfl⟩
  obtain ⟨b4, hb4⟩ : ∃ b, b = w.heap.size + 1 := ⟨_, rfl⟩
  rw [← hW, ← hb4, ← hb3]
  have hG0 : Grows w W := by rw [hW]; exact ((Grows.refl _).alloc _).alloc _
  have hR0 : Row W b3 R 26 := by rw [hW]; exact (Row.new_at _ _ _ hb3).grows ((Grows.refl _).alloc _)
  have hA0 : Row W b4 #[.bool false, .int .i64 0, .int .i64 0, .int .u64 0] 32 := by rw [hW]; exact Row.new_at _ _ _ (by rw [hb4]; simp)
  have hn34 : b3 ≠ b4 ∧ w.heap.size ≤ b3 ∧ w.heap.size ≤ b4 := by omega
  clear hW hb3 hb4
  refine (hd W).mono ?_
  rintro _ w1 ⟨rfl, hg1⟩
  have HN := Lib.hid hn34
  have HG1 := Lib.hid (hG0.trans hg1)
  have HR1 := Lib.hid (hR0.grows hg1)
  have HA1 := Lib.hid (hA0.grows hg1)
  clear hG0 hR0 hA0 hn34 hg1
  have z0 : World.cell? w1 ⟨b4, 0, none⟩ = some (.bool false) := (HA1).out.cell 0
  have z1 : World.cell? w1 ⟨b4, 1, none⟩ = some (.int .i64 0) := (HA1).out.cell 1
  have z2 : World.cell? w1 ⟨b4, 2, none⟩ = some (.int .i64 0) := (HA1).out.cell 2
  have z3 : World.cell? w1 ⟨b4, 3, none⟩ = some (.int .u64 0) := (HA1).out.cell 3
  have y0 := (HA1).out.frozen 0
  have y1 := (HA1).out.frozen 1
  have y2 := (HA1).out.frozen 2
  have y3 := (HA1).out.frozen 3
  have ly := (HA1).out.lt
  go_wp2_with fail
  have hF := (((Row.set (Row.set (Row.set (Row.set HA1.out 0 (.bool false)) 1 (.int .i64 4)) 2 (.int .i64 rd)) 3 (.int .u64 0)).grows ((Grows.refl _).alloc (Obj.cells #[.int .i64 24, .int .i64 rd, .int .i64 r1, .int .i64 r2, .int .i64 v] 41))).grows ((Grows.refl _).alloc (Obj.cells #[.int .i64 8, .int .i64 4, .int .i64 1] 3))).cell
  have hGF := (((((HG1.out.setCell (p := ⟨b4, 0, none⟩) HN.out.2.2 (.bool false)).setCell (p := ⟨b4, 1, none⟩) HN.out.2.2 (.int .i64 4)).setCell (p := ⟨b4, 2, none⟩) HN.out.2.2 (.int .i64 rd)).setCell (p := ⟨b4, 3, none⟩) HN.out.2.2 (.int .u64 0)).alloc (Obj.cells #[.int .i64 24, .int .i64 rd, .int .i64 r1, .int .i64 r2, .int .i64 v] 41)).alloc (Obj.cells #[.int .i64 8, .int .i64 4, .int .i64 1] 3)
  exact bodyPost_ret (v := .tuple #[.agg #[.bool false, .int .i64 4, .int .i64 rd, .int .u64 0], .int .i64 0]) (by simp [results, Tryd.results6, go_sem, hF]) rfl ⟨rfl, hGF⟩
set_option maxRecDepth 100000 in
set_option maxHeartbeats 2000000 in
theorem rdec_25 (hop : op = 25) (hZ : Z = 0) (w : World) :
    Calls Tryd.prog 6 #[.int .u32 x, .agg R] w fun r w' => r = .returned (.tuple #[.agg #[.bool false, .int .i64 1, .int .i64 rd, .int .u64 0], .int .i64 0]) ∧ Grows w w' := by
  subst hop hZ
  go_enter Tryd.func6, Tryd.ntmps6
  go_wp2_with fail
  obtain ⟨W, hW⟩ : ∃ W, W = (w.alloc (Obj.cells R 26)).alloc (Obj.cells #[.bool false, .int .i64 0, .int .i64 0, .int .u64 0] 32) := ⟨_, rfl⟩
  obtain ⟨b3, hb3⟩ : ∃ b, b = w.heap.size := ⟨_, rfl⟩
  obtain ⟨b4, hb4⟩ : ∃ b, b = w.heap.size + 1 := ⟨_, rfl⟩
  rw [← hW, ← hb4, ← hb3]
  have hG0 : Grows w W := by rw [hW]; exact ((Grows.refl _).alloc _).alloc _
  have hR0 : Row W b3 R 26 := by rw [hW]; exact (Row.new_at _ _ _ hb3).grows ((Grows.refl _).alloc _)
  have hA0 : Row W b4 #[.bool false, .int .i64 0, .int .i64 0, .int .u64 0] 32 := by rw [hW]; exact Row.new_at _ _ _ (by rw [hb4]; simp)
  have hn34 : b3 ≠ b4 ∧ w.heap.size ≤ b3 ∧ w.heap.size ≤ b4 := by omega
  clear hW hb3 hb4
  refine (hd W).mono ?_
  rintro _ w1 ⟨rfl, hg1⟩
  have HN := Lib.hid hn34
  have HG1 := Lib.hid (hG0.trans hg1)
  have HR1 := Lib.hid (hR0.grows hg1)
  have HA1 := Lib.hid (hA0.grows hg1)
  clear hG0 hR0 hA0 hn34 hg1
  have z0 : World.cell? w1 ⟨b4, 0, none⟩ = some (.bool false) := (HA1).out.cell 0
  have z1 : World.cell? w1 ⟨b4, 1, none⟩ = some (.int .i64 0) := (HA1).out.cell 1
  have z2 : World.cell? w1 ⟨b4, 2, none⟩ = some (.int .i64 0) := (HA1).out.cell 2
  have z3 : World.cell? w1 ⟨b4, 3, none⟩ = some (.int .u64 0) := (HA1).out.cell 3
  have y0 := (HA1).out.frozen 0
  have y1 := (HA1).out.frozen 1
  have y2 := (HA1).out.frozen 2
  have y3 := (HA1).out.frozen 3
  have ly := (HA1).out.lt
  go_wp2_with fail
  have hF := (((Row.set (Row.set (Row.set (Row.set HA1.out 0 (.bool false)) 1 (.int .i64 1)) 2 (.int .i64 rd)) 3 (.int .u64 0)).grows ((Grows.refl _).alloc (Obj.cells #[.int .i64 25, .int .i64 rd, .int .i64 r1, .int .i64 r2, .int .i64 v] 41))).grows ((Grows.refl _).alloc (Obj.cells #[.int .i64 8, .int .i64 4, .int .i64 1] 3))).cell
  have hGF := (((((HG1.out.setCell (p := ⟨b4, 0, none⟩) HN.out.2.2 (.bool false)).setCell (p := ⟨b4, 1, none⟩) HN.out.2.2 (.int .i64 1)).setCell (p := ⟨b4, 2, none⟩) HN.out.2.2 (.int .i64 rd)).setCell (p := ⟨b4, 3, none⟩) HN.out.2.2 (.int .u64 0)).alloc (Obj.cells #[.int .i64 25, .int .i64 rd, .int .i64 r1, .int .i64 r2, .int .i64 v] 41)).alloc (Obj.cells #[.int .i64 8, .int .i64 4, .int .i64 1] 3)
  exact bodyPost_ret (v := .tuple #[.agg #[.bool false, .int .i64 1, .int .i64 rd, .int .u64 0], .int .i64 0]) (by simp [results, Tryd.results6, go_sem, hF]) rfl ⟨rfl, hGF⟩
set_option maxRecDepth 100000 in
set_option maxHeartbeats 2000000 in
theorem rdec_26 {f : Nat → Nat} (hR : RegN R f) {j : Nat} (hj : r2 = j) (hj16 : j < 16) (hop : op = 26) (hZ : Z = 0) (w : World) :
    Calls Tryd.prog 6 #[.int .u32 x, .agg R] w fun r w' => r = .returned (.tuple #[.agg #[.bool true, .int .i64 8, .int .i64 (j : Int), .int .u64 (rvF f j % 18446744073709551616 : Nat)], .int .i64 0]) ∧ Grows w w' := by
  subst hop hZ
  have HJ := Lib.hid hj
  clear hj
  go_enter Tryd.func6, Tryd.ntmps6
  go_wp2_with fail
  obtain ⟨W, hW⟩ : ∃ W, W = (w.alloc (Obj.cells R 26)).alloc (Obj.cells #[.bool false, .int .i64 0, .int .i64 0, .int .u64 0] 32) := ⟨_, rfl⟩
  obtain ⟨b3, hb3⟩ : ∃ b, b = w.heap.size := ⟨_, rfl⟩
  obtain ⟨b4, hb4⟩ : ∃ b, b = w.heap.size + 1 := ⟨_, rfl⟩
  rw [← hW, ← hb4, ← hb3]
  have hG0 : Grows w W := by rw [hW]; exact ((Grows.refl _).alloc _).alloc _
  have hR0 : Row W b3 R 26 := by rw [hW]; exact (Row.new_at _ _ _ hb3).grows ((Grows.refl _).alloc _)
  have hA0 : Row W b4 #[.bool false, .int .i64 0, .int .i64 0, .int .u64 0] 32 := by rw [hW]; exact Row.new_at _ _ _ (by rw [hb4]; simp)
  have hn34 : b3 ≠ b4 ∧ w.heap.size ≤ b3 ∧ w.heap.size ≤ b4 := by omega
  clear hW hb3 hb4
  refine (hd W).mono ?_
  rintro _ w1 ⟨rfl, hg1⟩
  have HN := Lib.hid hn34
  have HG1 := Lib.hid (hG0.trans hg1)
  have HR1 := Lib.hid (hR0.grows hg1)
  have HA1 := Lib.hid (hA0.grows hg1)
  clear hG0 hR0 hA0 hn34 hg1
  have z0 : World.cell? w1 ⟨b4, 0, none⟩ = some (.bool false) := (HA1).out.cell 0
  have z1 : World.cell? w1 ⟨b4, 1, none⟩ = some (.int .i64 0) := (HA1).out.cell 1
  have z2 : World.cell? w1 ⟨b4, 2, none⟩ = some (.int .i64 0) := (HA1).out.cell 2
  have z3 : World.cell? w1 ⟨b4, 3, none⟩ = some (.int .u64 0) := (HA1).out.cell 3
  have y0 := (HA1).out.frozen 0
  have y1 := (HA1).out.frozen 1
  have y2 := (HA1).out.frozen 2
  have y3 := (HA1).out.frozen 3
  have ly := (HA1).out.lt
  have hj := HJ.out
  clear HJ
  subst hj
  have o1 : (j : Int) < 16 := by omega
  have lr := HR1.out.lt
  obtain ⟨vv, hvv⟩ : ∃ vv, vv = rvF f j % 18446744073709551616 := ⟨_, rfl⟩
  have HVV := Lib.hid hvv
  by_cases h0 : j = 0
  · subst h0
    have hv0 : vv = 0 := by rw [hvv]; rfl
    clear hvv
    subst hv0
    go_wp2_with fail
    have hF := (((Row.set (Row.set (Row.set (Row.set HA1.out 0 (.bool true)) 1 (.int .i64 8)) 2 (.int .i64 0)) 3 (.int .u64 0)).grows ((Grows.refl _).alloc (Obj.cells #[.int .i64 26, .int .i64 rd, .int .i64 r1, .int .i64 0, .int .i64 v] 41))).grows ((Grows.refl _).alloc (Obj.cells #[.int .i64 8, .int .i64 4, .int .i64 1] 3))).cell
    have hGF := (((((HG1.out.setCell (p := ⟨b4, 0, none⟩) HN.out.2.2 (.bool true)).setCell (p := ⟨b4, 1, none⟩) HN.out.2.2 (.int .i64 8)).setCell (p := ⟨b4, 2, none⟩) HN.out.2.2 (.int .i64 0)).setCell (p := ⟨b4, 3, none⟩) HN.out.2.2 (.int .u64 0)).alloc (Obj.cells #[.int .i64 26, .int .i64 rd, .int .i64 r1, .int .i64 0, .int .i64 v] 41)).alloc (Obj.cells #[.int .i64 8, .int .i64 4, .int .i64 1] 3)
    exact bodyPost_ret (v := .tuple #[.agg #[.bool true, .int .i64 8, .int .i64 0, .int .u64 0], .int .i64 0]) (by simp [results, Tryd.results6, go_sem, hF]) rfl ⟨by rw [← HVV.out]; rfl, hGF⟩
  · have hv0 : vv = f j % 18446744073709551616 := by rw [hvv]; unfold rvF; rw [if_neg h0]
    have hj0 : ((j : Int) != 0) = true := by simp; exact h0
    have cj : w1.cell? ⟨b3, j, none⟩ = some (.int .u64 (f j : Nat)) := by rw [HR1.out.cell]; exact (hR.2 j hj16).2
    have hf := (hR.2 j hj16).1
    clear hvv h0 hR
    generalize f j = fj at *
    have hv1 : vv = fj := by omega
    clear hv0
    subst hv1
    go_wp2_with fail
    have hF := (((Row.set (Row.set (Row.set (Row.set HA1.out 0 (.bool true)) 1 (.int .i64 8)) 2 (.int .i64 (j : Int))) 3 (.int .u64 (vv : Nat))).grows ((Grows.refl _).alloc (Obj.cells #[.int .i64 26, .int .i64 rd, .int .i64 r1, .int .i64 (j : Int), .int .i64 v] 41))).grows ((Grows.refl _).alloc (Obj.cells #[.int .i64 8, .int .i64 4, .int .i64 1] 3))).cell
    have hGF := (((((HG1.out.setCell (p := ⟨b4, 0, none⟩) HN.out.2.2 (.bool true)).setCell (p := ⟨b4, 1, none⟩) HN.out.2.2 (.int .i64 8)).setCell (p := ⟨b4, 2, none⟩) HN.out.2.2 (.int .i64 (j : Int))).setCell (p := ⟨b4, 3, none⟩) HN.out.2.2 (.int .u64 (vv : Nat))).alloc (Obj.cells #[.int .i64 26, .int .i64 rd, .int .i64 r1, .int .i64 (j : Int), .int .i64 v] 41)).alloc (Obj.cells #[.int .i64 8, .int .i64 4, .int .i64 1] 3)
    exact bodyPost_ret (v := .tuple #[.agg #[.bool true, .int .i64 8, .int .i64 (j : Int), .int .u64 (vv : Nat)], .int .i64 0]) (by simp [results, Tryd.results6, go_sem, hF]) rfl ⟨by rw [← HVV.out], hGF⟩
set_option maxRecDepth 100000 in
set_option maxHeartbeats 2000000 in
theorem rdec_27 {f : Nat → Nat} (hR : RegN R f) {j : Nat} (hj : r2 = j) (hj16 : j < 16) (hop : op = 27) (hZ : Z = 0) (w : World) :
    Calls Tryd.prog 6 #[.int .u32 x, .agg R] w fun r w' => r = .returned (.tuple #[.agg #[.bool true, .int .i64 4, .int .i64 (j : Int), .int .u64 (rvF f j % 4294967296 : Nat)], .int .i64 0]) ∧ Grows w w' := by
  subst hop hZ
  have HJ := Lib.hid hj
  clear hj
  go_enter Tryd.func6, Tryd.ntmps6
  go_wp2_with fail
  obtain ⟨W, hW⟩ : ∃ W, W = (w.alloc (Obj.cells R 26)).alloc (Obj.cells #[.bool false, .int .i64 0, .int .i64 0, .int .u64 0] 32) := ⟨_, rfl⟩
  obtain ⟨b3, hb3⟩ : ∃ b, b = w.heap.size := ⟨_, rfl⟩
  obtain ⟨b4, hb4⟩ : ∃ b, b = w.heap.size + 1 := ⟨_, rfl⟩
  rw [← hW, ← hb4, ← hb3]
  have hG0 : Grows w W := by rw [hW]; exact ((Grows.refl _).alloc _).alloc _
  have hR0 : Row W b3 R 26 := by rw [hW]; exact (Row.new_at _ _ _ hb3).grows ((Grows.refl _).alloc _)
  have hA0 : Row W b4 #[.bool false, .int .i64 0, .int .i64 0, .int .u64 0] 32 := by rw [hW]; exact Row.new_at _ _ _ (by rw [hb4]; simp)
  have hn34 : b3 ≠ b4 ∧ w.heap.size ≤ b3 ∧ w.heap.size ≤ b4 := by omega
  clear hW hb3 hb4
  refine (hd W).mono ?_
  rintro _ w1 ⟨rfl, hg1⟩
  have HN := Lib.hid hn34
  have HG1 := Lib.hid (hG0.trans hg1)
  have HR1 := Lib.hid (hR0.grows hg1)
  have HA1 := Lib.hid (hA0.grows hg1)
  clear hG0 hR0 hA0 hn34 hg1
  have z0 : World.cell? w1 ⟨b4, 0, none⟩ = some (.bool false) := (HA1).out.cell 0
  have z1 : World.cell? w1 ⟨b4, 1, none⟩ = some (.int .i64 0) := (HA1).out.cell 1
  have z2 : World.cell? w1 ⟨b4, 2, none⟩ = some (.int .i64 0) := (HA1).out.cell 2
  have z3 : World.cell? w1 ⟨b4, 3, none⟩ = some (.int .u64 0) := (HA1).out.cell 3
  have y0 := (HA1).out.frozen 0
  have y1 := (HA1).out.frozen 1
  have y2 := (HA1).out.frozen 2
  have y3 := (HA1).out.frozen 3
  have ly := (HA1).out.lt
  have hj := HJ.out
  clear HJ
  subst hj
  have o1 : (j : Int) < 16 := by omega
  have lr := HR1.out.lt
  obtain ⟨vv, hvv⟩ : ∃ vv, vv = rvF f j % 4294967296 := ⟨_, rfl⟩
  have HVV := Lib.hid hvv
  by_cases h0 : j = 0
  · subst h0
    have hv0 : vv = 0 := by rw [hvv]; rfl
    clear hvv
    subst hv0
    go_wp2_with fail
    have hF := (((Row.set (Row.set (Row.set (Row.set HA1.out 0 (.bool true)) 1 (.int .i64 4)) 2 (.int .i64 0)) 3 (.int .u64 0)).grows ((Grows.refl _).alloc (Obj.cells #[.int .i64 27, .int .i64 rd, .int .i64 r1, .int .i64 0, .int .i64 v] 41))).grows ((Grows.refl _).alloc (Obj.cells #[.int .i64 8, .int .i64 4, .int .i64 1] 3))).cell
    have hGF := (((((HG1.out.setCell (p := ⟨b4, 0, none⟩) HN.out.2.2 (.bool true)).setCell (p := ⟨b4, 1, none⟩) HN.out.2.2 (.int .i64 4)).setCell (p := ⟨b4, 2, none⟩) HN.out.2.2 (.int .i64 0)).setCell (p := ⟨b4, 3, none⟩) HN.out.2.2 (.int .u64 0)).alloc (Obj.cells #[.int .i64 27, .int .i64 rd, .int .i64 r1, .int .i64 0, .int .i64 v] 41)).alloc (Obj.cells #[.int .i64 8, .int .i64 4, .int .i64 1] 3)
    exact bodyPost_ret (v := .tuple #[.agg #[.bool true, .int .i64 4, .int .i64 0, .int .u64 0], .int .i64 0]) (by simp [results, Tryd.results6, go_sem, hF]) rfl ⟨by rw [← HVV.out]; rfl, hGF⟩
  · have hv0 : vv = f j % 4294967296 := by rw [hvv]; unfold rvF; rw [if_neg h0]
    have hj0 : ((j : Int) != 0) = true := by simp; exact h0
    have cj : w1.cell? ⟨b3, j, none⟩ = some (.int .u64 (f j : Nat)) := by rw [HR1.out.cell]; exact (hR.2 j hj16).2
    have hf := (hR.2 j hj16).1
    clear hvv h0 hR
    generalize f j = fj at *
    have HV0 := Lib.hid hv0
    have hmod : (fj : Int) % 4294967296 = (vv : Nat) := by rw [hv0]; omega
    clear hv0
    go_wp2_with fail
    have hF := (((Row.set (Row.set (Row.set (Row.set HA1.out 0 (.bool true)) 1 (.int .i64 4)) 2 (.int .i64 (j : Int))) 3 (.int .u64 (vv : Nat))).grows ((Grows.refl _).alloc (Obj.cells #[.int .i64 27, .int .i64 rd, .int .i64 r1, .int .i64 (j : Int), .int .i64 v] 41))).grows ((Grows.refl _).alloc (Obj.cells #[.int .i64 8, .int .i64 4, .int .i64 1] 3))).cell
    have hGF := (((((HG1.out.setCell (p := ⟨b4, 0, none⟩) HN.out.2.2 (.bool true)).setCell (p := ⟨b4, 1, none⟩) HN.out.2.2 (.int .i64 4)).setCell (p := ⟨b4, 2, none⟩) HN.out.2.2 (.int .i64 (j : Int))).setCell (p := ⟨b4, 3, none⟩) HN.out.2.2 (.int .u64 (vv : Nat))).alloc (Obj.cells #[.int .i64 27, .int .i64 rd, .int .i64 r1, .int .i64 (j : Int), .int .i64 v] 41)).alloc (Obj.cells #[.int .i64 8, .int .i64 4, .int .i64 1] 3)
    exact bodyPost_ret (v := .tuple #[.agg #[.bool true, .int .i64 4, .int .i64 (j : Int), .int .u64 (vv : Nat)], .int .i64 0]) (by simp [results, Tryd.results6, go_sem, hF]) rfl ⟨by rw [← HVV.out], hGF⟩
set_option maxRecDepth 100000 in
set_option maxHeartbeats 2000000 in
theorem rdec_28 {f : Nat → Nat} (hR : RegN R f) {j : Nat} (hj : r2 = j) (hj16 : j < 16) (hop : op = 28) (hZ : Z = 0) (w : World) :
    Calls Tryd.prog 6 #[.int .u32 x, .agg R] w fun r w' => r = .returned (.tuple #[.agg #[.bool true, .int .i64 1, .int .i64 (j : Int), .int .u64 (rvF f j % 256 : Nat)], .int .i64 0]) ∧ Grows w w' := by
  subst hop hZ
  have HJ := Lib.hid hj
  clear hj
  go_enter Tryd.func6, Tryd.ntmps6
  go_wp2_with fail
  obtain ⟨W, hW⟩ : ∃ W, W = (w.alloc (Obj.cells R 26)).alloc (Obj.cells #[.bool false, .int .i64 0, .int .i64 0, .int .u64 0] 32) := ⟨_, rfl⟩
  obtain ⟨b3, hb3⟩ : ∃ b, b = w.heap.size := ⟨_, rfl⟩
  obtain ⟨b4, hb4⟩ : ∃ b, b = w.heap.size + 1 := ⟨_, rfl⟩
  rw [← hW, ← hb4, ← hb3]
  have hG0 : Grows w W := by rw [hW]; exact ((Grows.refl _).alloc _).alloc _
  have hR0 : Row W b3 R 26 := by rw [hW]; exact (Row.new_at _ _ _ hb3).grows ((Grows.refl _).alloc _)
  have hA0 : Row W b4 #[.bool false, .int .i64 0, .int .i64 0, .int .u64 0] 32 := by rw [hW]; exact Row.new_at _ _ _ (by rw [hb4]; simp)
  have hn34 : b3 ≠ b4 ∧ w.heap.size ≤ b3 ∧ w.heap.size ≤ b4 := by omega
  clear hW hb3 hb4
  refine (hd W).mono ?_
  rintro _ w1 ⟨rfl, hg1⟩
  have HN := Lib.hid hn34
  have HG1 := Lib.hid (hG0.trans hg1)
  have HR1 := Lib.hid (hR0.grows hg1)
  have HA1 := Lib.hid (hA0.grows hg1)
  clear hG0 hR0 hA0 hn34 hg1
  have z0 : World.cell? w1 ⟨b4, 0, none⟩ = some (.bool false) := (HA1).out.cell 0
  have z1 : World.cell? w1 ⟨b4, 1, none⟩ = some (.int .i64 0) := (HA1).out.cell 1
  have z2 : World.cell? w1 ⟨b4, 2, none⟩ = some (.int .i64 0) := (HA1).out.cell 2
  have z3 : World.cell? w1 ⟨b4, 3, none⟩ = some (.int .u64 0) := (HA1).out.cell 3
  have y0 := (HA1).out.frozen 0
  have y1 := (HA1).out.frozen 1
  have y2 := (HA1).out.frozen 2
  have y3 := (HA1).out.frozen 3
  have ly := (HA1).out.lt
  have hj := HJ.out
  clear HJ
  subst hj
  have o1 : (j : Int) < 16 := by omega
  have lr := HR1.out.lt
  obtain ⟨vv, hvv⟩ : ∃ vv, vv = rvF f j % 256 := ⟨_, rfl⟩
  have HVV := Lib.hid hvv
  by_cases h0 : j = 0
  · subst h0
    have hv0 : vv = 0 := by rw [hvv]; rfl
    clear hvv
    subst hv0
    go_wp2_with fail
    have hF := (((Row.set (Row.set (Row.set (Row.set HA1.out 0 (.bool true)) 1 (.int .i64 1)) 2 (.int .i64 0)) 3 (.int .u64 0)).grows ((Grows.refl _).alloc (Obj.cells #[.int .i64 28, .int .i64 rd, .int .i64 r1, .int .i64 0, .int .i64 v] 41))).grows ((Grows.refl _).alloc (Obj.cells #[.int .i64 8, .int .i64 4, .int .i64 1] 3))).cell
    have hGF := (((((HG1.out.setCell (p := ⟨b4, 0, none⟩) HN.out.2.2 (.bool true)).setCell (p := ⟨b4, 1, none⟩) HN.out.2.2 (.int .i64 1)).setCell (p := ⟨b4, 2, none⟩) HN.out.2.2 (.int .i64 0)).setCell (p := ⟨b4, 3, none⟩) HN.out.2.2 (.int .u64 0)).alloc (Obj.cells #[.int .i64 28, .int .i64 rd, .int .i64 r1, .int .i64 0, .int .i64 v] 41)).alloc (Obj.cells #[.int .i64 8, .int .i64 4, .int .i64 1] 3)
    exact bodyPost_ret (v := .tuple #[.agg #[.bool true, .int .i64 1, .int .i64 0, .int .u64 0], .int .i64 0]) (by simp [results, Tryd.results6, go_sem, hF]) rfl ⟨by rw [← HVV.out]; rfl, hGF⟩
  · have hv0 : vv = f j % 256 := by rw [hvv]; unfold rvF; rw [if_neg h0]
    have hj0 : ((j : Int) != 0) = true := by simp; exact h0
    have cj : w1.cell? ⟨b3, j, none⟩ = some (.int .u64 (f j : Nat)) := by rw [HR1.out.cell]; exact (hR.2 j hj16).2
    have hf := (hR.2 j hj16).1
    clear hvv h0 hR
    generalize f j = fj at *
    have HV0 := Lib.hid hv0
    have hmod : (fj : Int) % 256 = (vv : Nat) := by rw [hv0]; omega
    clear hv0
    go_wp2_with fail
    have hF := (((Row.set (Row.set (Row.set (Row.set HA1.out 0 (.bool true)) 1 (.int .i64 1)) 2 (.int .i64 (j : Int))) 3 (.int .u64 (vv : Nat))).grows ((Grows.refl _).alloc (Obj.cells #[.int .i64 28, .int .i64 rd, .int .i64 r1, .int .i64 (j : Int), .int .i64 v] 41))).grows ((Grows.refl _).alloc (Obj.cells #[.int .i64 8, .int .i64 4, .int .i64 1] 3))).cell
    have hGF := (((((HG1.out.setCell (p := ⟨b4, 0, none⟩) HN.out.2.2 (.bool true)).setCell (p := ⟨b4, 1, none⟩) HN.out.2.2 (.int .i64 1)).setCell (p := ⟨b4, 2, none⟩) HN.out.2.2 (.int .i64 (j : Int))).setCell (p := ⟨b4, 3, none⟩) HN.out.2.2 (.int .u64 (vv : Nat))).alloc (Obj.cells #[.int .i64 28, .int .i64 rd, .int .i64 r1, .int .i64 (j : Int), .int .i64 v] 41)).alloc (Obj.cells #[.int .i64 8, .int .i64 4, .int .i64 1] 3)
    exact bodyPost_ret (v := .tuple #[.agg #[.bool true, .int .i64 1, .int .i64 (j : Int), .int .u64 (vv : Nat)], .int .i64 0]) (by simp [results, Tryd.results6, go_sem, hF]) rfl ⟨by rw [← HVV.out], hGF⟩
end
end Go.Proofs.YtjbgamifkgeodaaDoor
