/- emulate.Finish, and the reference's. -/
import Derived.Test.YtjbgamifkgeodaaDoorEmuR
import Derived.Test.YtjbgamifkgeodaaDoorBytes
import Derived.Deep.RegionHeld3
namespace Go.Proofs.YtjbgamifkgeodaaDoor
open Go Go.RowKit
set_option linter.unusedSimpArgs false
set_option linter.unusedVariables false
/-- What of v is loaded again. -/
def ldV (V : Nat) (wid : Int) : Nat := if knownB wid then loadN (leB V wid.toNat) else 0
theorem leB_len (V W : Nat) : (leB V W).length = W := by
  first | exact leB_length V W | exact length_leB V W | simp [leB]
theorem store_all (V : Nat) (wid : Int) (w : World) (hT : Widths w) :
    Calls Tryd.prog 16 #[.int .u64 V, .int .i64 wid] w fun r w' => ∃ A n c, r = .returned (.slice A n c) ∧ Grows w w' ∧
      Calls Tryd.prog 15 #[.slice A n c, .int .i64 0, .int .i64 wid] w' fun r w2 => ∃ ok, r = .returned (.tuple #[.int .u64 (ldV V wid : Nat), .bool ok]) ∧ Grows w' w2 := by
  cases hk : knownB wid
  · refine (store_no V wid w hT hk).mono ?_
    rintro _ w1 ⟨rfl, hg⟩
    refine ⟨none, 0, 0, rfl, hg, ?_⟩
    refine (load_no none 0 0 0 wid w1 (hT.grows hg) (by omega) (Or.inl hk)).mono ?_
    rintro _ w2 ⟨rfl, hg2⟩
    exact ⟨false, by unfold ldV; rw [hk]; rfl, hg2⟩
  · obtain ⟨W, rfl⟩ : ∃ W : Nat, wid = W := by have := knownB_cases hk; exact ⟨wid.toNat, by omega⟩
    refine (store_yes V W w hT hk).mono ?_
    rintro _ w1 ⟨b, rfl, hg, hb, hr⟩
    have hl := leB_len V W
    refine ⟨_, _, _, rfl, hg, ?_⟩
    refine (load_yes b 0 (leB V W).length (leB V W).length 0 W (leB V W) w1 (hT.grows hg) (Nat.le_refl _) (by have := knownB_cases hk; omega) hk (by omega) hl (row_bytes hr (leB_lt V W)) hr.lt).mono ?_
    rintro _ w2 ⟨rfl, hg2⟩
    exact ⟨true, by unfold ldV; rw [hk, Int.toNat_natCast]; rfl, hg2⟩
theorem rstore_all (V : Nat) (wid : Int) (w : World) :
    Calls Tryd.prog 18 #[.int .u64 V, .int .i64 wid] w fun r w' => ∃ A n c, r = .returned (.slice A n c) ∧ Grows w w' ∧
      Calls Tryd.prog 17 #[.slice A n c, .int .i64 0, .int .i64 wid] w' fun r w2 => ∃ ok, r = .returned (.tuple #[.int .u64 (ldV V wid : Nat), .bool ok]) ∧ Grows w' w2 := by
  cases hk : knownB wid
  · refine (rstore_no V wid w hk).mono ?_
    rintro _ w1 ⟨rfl, hg⟩
    refine ⟨none, 0, 0, rfl, hg, ?_⟩
    refine (rload_no none 0 0 0 wid w1 (by omega) (Or.inl hk)).mono ?_
    rintro _ w2 ⟨rfl, hg2⟩
    exact ⟨false, by unfold ldV; rw [hk]; rfl, hg2⟩
  · obtain ⟨W, rfl⟩ : ∃ W : Nat, wid = W := by have := knownB_cases hk; exact ⟨wid.toNat, by omega⟩
    refine (rstore_yes V W w hk).mono ?_
    rintro _ w1 ⟨b, c, rfl, hc, hc2, hg, hb, hb2, hB⟩
    have hl := leB_len V W
    refine ⟨_, _, _, rfl, hg, ?_⟩
    refine (rload_yes b 0 (leB V W).length c 0 W (leB V W) w1 hc (by omega) hk (by omega) hl hB).mono ?_
    rintro _ w2 ⟨rfl, hg2⟩
    exact ⟨true, by unfold ldV; rw [hk, Int.toNat_natCast]; rfl, hg2⟩
/-- The registers behind it. -/
def finA (R : Array Value) (pc : Int) (wr : Bool) (reg : Int) (y : Nat) : Array Value := if wr = true ∨ reg < 1 ∨ 15 < reg then skipA R pc else (skipA R pc).setIfInBounds reg.toNat (.int .u64 (y : Nat))
theorem finA_ok {R : Array Value} (hR : RegsOk R) (pc : Int) (wr : Bool) (reg : Int) (y : Nat) : RegsOk (finA R pc wr reg y) := by
  unfold finA
  split
  · exact hR.set (by decide) _
  · exact (RegsOk.set hR (i := 16) (by decide) _).set (by omega) _
theorem eql_acc (wr : Bool) (wid reg val : Int) : ∃ bb : Bool, (∀ w, (binOp .eql 28 (.agg #[.bool wr, .int .i64 wid, .int .i64 reg, .int .u64 val]) (.agg #[.bool false, .int .i64 0, .int .i64 0, .int .u64 0])).run Tryd.prog w = .ok (.bool bb) w) ∧ (bb = true → reg = 0) := by
  by_cases h1 : wr = false
  · subst h1
    by_cases h2 : wid = 0
    · subst h2
      by_cases h3 : reg = 0
      · subst h3
        by_cases h4 : val = 0
        · subst h4
          exact ⟨true, fun w => by kernel_rfl, fun _ => rfl⟩
        · exact ⟨false, fun w => by simp [go_sem, h4], fun h => by cases h⟩
      · exact ⟨false, fun w => by simp [go_sem, h3], fun h => by cases h⟩
    · exact ⟨false, fun w => by simp [go_sem, h2], fun h => by cases h⟩
  · have h1 : wr = true := by simpa using h1
    subst h1
    exact ⟨false, fun w => by simp [go_sem], fun h => by cases h⟩
def cellV (w : World) (b j : Nat) : Int := intOf ((w.cell? ⟨b, j, none⟩).getD undef)
theorem fin_keep {w : World} {b1 b2 j : Nat} {wid reg val x : Int} {wr : Bool} {R : Array Value} {t t' : TypeId} (hA : Row w b2 #[.bool wr, .int .i64 wid, .int .i64 reg, .int .u64 val] t) (hR : Row w b1 R t') (hx : R[j]? = some (.int .u64 x)) :
    w.cell? ⟨b2, 1, none⟩ = some (.int .i64 wid) ∧ w.cell? ⟨b2, 2, none⟩ = some (.int .i64 reg) ∧ w.cell? ⟨b1, j, none⟩ = some (.int .u64 (cellV w b1 j)) ∧ w.frozen? ⟨b1, j, none⟩ = false := by
  refine ⟨hA.cell 1, hA.cell 2, ?_, hR.frozen j⟩
  have h : w.cell? ⟨b1, j, none⟩ = some (.int .u64 x) := by rw [hR.cell]; exact hx
  unfold cellV
  rw [h]; rfl
set_option maxRecDepth 100000 in
set_option maxHeartbeats 2000000 in
theorem finish_r {R : Array Value} (hR : RegsOk R) {pc : Int} (hpc : R[16]? = some (.int .u64 pc)) (wr : Bool) (wid reg val : Int) (V : Nat) (w : World) (hT : Widths w) :
    Calls Tryd.prog 7 #[.agg R, .agg #[.bool wr, .int .i64 wid, .int .i64 reg, .int .u64 val], .int .u64 V] w fun r w' => r = .returned (.agg (finA R pc wr reg (ldV V wid))) ∧ Grows w w' := by
  obtain ⟨bb, heq, hbb⟩ := eql_acc wr wid reg val
  unfold finA
  by_cases hc : wr = true ∨ reg < 1 ∨ 15 < reg
  · rw [if_pos hc]
    cases bb
    · clear hbb
      have hS : RegsOk (skipA R pc) := hR.set (by decide) _
      go_enter Tryd.func7, Tryd.ntmps7
      iterate 8 (first | go_values | go_skip | go_guarded | go_step | go_upon | go_back)
      iterate 3 (first | go_values | go_skip | go_guarded | go_step | go_upon | go_back)
      obtain ⟨W, hW⟩ : ∃ W, W = ((w.alloc (Obj.cells R 26)).alloc (Obj.cells #[.bool wr, .int .i64 wid, .int .i64 reg, .int .u64 val] 28)).alloc (Obj.cells regs0.toArray 26) := ⟨_, rfl⟩
      rw [← hW]
      have hg : Grows w W := by rw [hW]; exact (((Grows.refl _).alloc _).alloc _).alloc _
      obtain ⟨b1, hb1⟩ : ∃ b, b = w.heap.size := ⟨_, rfl⟩
      obtain ⟨b2, hb2⟩ : ∃ b, b = w.heap.size + 1 := ⟨_, rfl⟩
      obtain ⟨b3, hb3⟩ : ∃ b, b = w.heap.size + 1 + 1 := ⟨_, rfl⟩
      rw [← hb3, ← hb2, ← hb1]
      have hR0 : Row W b1 R 26 := by
        rw [hW]; exact ((Row.new_at _ _ _ hb1).grows ((Grows.refl _).alloc _)).grows ((Grows.refl _).alloc _)
      have hA0 : Row W b2 #[.bool wr, .int .i64 wid, .int .i64 reg, .int .u64 val] 28 := by
        rw [hW]; exact (Row.new_at _ _ _ (by rw [hb2]; simp)).grows ((Grows.refl _).alloc _)
      have hZ0 : Row W b3 regs0.toArray 26 := by
        rw [hW]; exact Row.new_at _ _ _ (by rw [hb3]; simp)
      clear hW
      have hn : b1 ≠ b2 ∧ b1 ≠ b3 := by omega
      have HB := Lib.hid (show w.heap.size ≤ b1 ∧ w.heap.size ≤ b3 by omega)
      clear hb1 hb2 hb3
      have HI0 := Lib.hid (show (Tryd.prog.info? 26).map (·.size) = some R.size by rw [hR.size]; kernel_rfl)
      have HG := Lib.hid hg
      clear hg
      go_wp2_with (refine wpList_load_row rfl 26 _ rfl b1 rfl 26 R (0, 0) _ hR0 Tryd.underlying26 rfl HI0.out ?_)
      refine (skip_r hR hpc _).mono ?_
      rintro _ w1 ⟨rfl, g1, rfl⟩
      obtain ⟨W1, hW1⟩ : ∃ W1, W1 = W.grow g1 := ⟨_, rfl⟩
      have hR1 : Row W1 b1 R 26 := by rw [hW1]; exact hR0.grows (Grows.of _ _)
      have hA1 : Row W1 b2 #[.bool wr, .int .i64 wid, .int .i64 reg, .int .u64 val] 28 := by rw [hW1]; exact hA0.grows (Grows.of _ _)
      have hZ1 : Row W1 b3 regs0.toArray 26 := by rw [hW1]; exact hZ0.grows (Grows.of _ _)
      have HG1 := Lib.hid (show Grows w W1 by rw [hW1]; exact HG.out.grow _)
      rw [← hW1]
      clear hW1 hR0 hA0 hZ0 HG HI0
      have HR2 := Lib.hid (row_setRow hR1 (skipA R pc))
      have HA2 := Lib.hid (row_setRowOther hA1 hn.1 (skipA R pc))
      have HZ2 := Lib.hid (row_setRowOther hZ1 hn.2 (skipA R pc))
      have HG2 := Lib.hid (grows_setRow HG1.out (b := b1) HB.out.1 (skipA R pc))
      have HI1 := Lib.hid (show (Tryd.prog.info? 26).map (·.size) = some (skipA R pc).size by rw [hS.size]; kernel_rfl)
      have HS1 := Lib.hid (show R.size = (skipA R pc).size by rw [hS.size, hR.size])
      have HS2 := Lib.hid (show regs0.toArray.size = (skipA R pc).size by rw [hS.size]; rfl)
      have HO1 := Lib.hid hS.one
      have HT2 := Lib.hid (hT.grows HG2.out)
      obtain ⟨W2, hW2⟩ : ∃ W2, W2 = W1.setRow b1 (skipA R pc) := ⟨_, rfl⟩
      have a0 : W2.cell? ⟨b2, 0, none⟩ = some (.bool wr) := by rw [hW2]; exact HA2.out.cell 0
      have a1 : W2.cell? ⟨b2, 1, none⟩ = some (.int .i64 wid) := by rw [hW2]; exact HA2.out.cell 1
      have a2 : W2.cell? ⟨b2, 2, none⟩ = some (.int .i64 reg) := by rw [hW2]; exact HA2.out.cell 2
      have a3 : W2.cell? ⟨b2, 3, none⟩ = some (.int .u64 val) := by rw [hW2]; exact HA2.out.cell 3
      rw [← hW2] at HR2 HA2 HZ2 HG2 HT2
      have HW2 := Lib.hid hW2.symm
      clear hT hA1 hZ1 HG1 hW2 hpc
      cases wr
      · by_cases h1 : reg < 1
        · have h1' : ¬ 1 ≤ reg := by omega
          clear hc
          have HF3 := Lib.hid (row_setRow HZ2.out (skipA R pc))
          have HG3 := Lib.hid (grows_setRow HG2.out (b := b3) HB.out.2 (skipA R pc))
          go_wp2_with (first
            | (refine wpList_store_row (by rfl) 26 _ _ (by rfl) b1 (skipA R pc) (by rfl) (by rfl) 26 _ (by exact hR1) HI1.out HS1.out HO1.out ?_; rw [HW2.out])
            | (refine wpList_load_row (by rfl) 26 _ (by rfl) b1 (by rfl) 26 (skipA R pc) (0, 0) _ (by exact HR2.out) Tryd.underlying26 rfl HI1.out ?_)
            | (refine wpList_store_row (by rfl) 26 _ _ (by rfl) b3 (skipA R pc) (by rfl) (by rfl) 26 _ (by exact HZ2.out) HI1.out HS2.out HO1.out ?_))
          exact bodyPost_ret (results_cell_row rfl _ _ b3 26 (skipA R pc) (0, 0) _ rfl HF3.out Tryd.underlying26 rfl HI1.out) rfl ⟨rfl, HG3.out⟩
        · have h15 : ¬ reg < 16 := by rcases hc with hc | hc | hc; cases hc; exact absurd hc h1; omega
          have h1' : 1 ≤ reg := by omega
          clear hc
          have HF3 := Lib.hid (row_setRow HZ2.out (skipA R pc))
          have HG3 := Lib.hid (grows_setRow HG2.out (b := b3) HB.out.2 (skipA R pc))
          go_wp2_with (first
            | (refine wpList_store_row (by rfl) 26 _ _ (by rfl) b1 (skipA R pc) (by rfl) (by rfl) 26 _ (by exact hR1) HI1.out HS1.out HO1.out ?_; rw [HW2.out])
            | (refine wpList_load_row (by rfl) 26 _ (by rfl) b1 (by rfl) 26 (skipA R pc) (0, 0) _ (by exact HR2.out) Tryd.underlying26 rfl HI1.out ?_)
            | (refine wpList_store_row (by rfl) 26 _ _ (by rfl) b3 (skipA R pc) (by rfl) (by rfl) 26 _ (by exact HZ2.out) HI1.out HS2.out HO1.out ?_))
          exact bodyPost_ret (results_cell_row rfl _ _ b3 26 (skipA R pc) (0, 0) _ rfl HF3.out Tryd.underlying26 rfl HI1.out) rfl ⟨rfl, HG3.out⟩
      · clear hc
        have HF3 := Lib.hid (row_setRow HZ2.out (skipA R pc))
        have HG3 := Lib.hid (grows_setRow HG2.out (b := b3) HB.out.2 (skipA R pc))
        go_wp2_with (first
          | (refine wpList_store_row (by rfl) 26 _ _ (by rfl) b1 (skipA R pc) (by rfl) (by rfl) 26 _ (by exact hR1) HI1.out HS1.out HO1.out ?_; rw [HW2.out])
          | (refine wpList_load_row (by rfl) 26 _ (by rfl) b1 (by rfl) 26 (skipA R pc) (0, 0) _ (by exact HR2.out) Tryd.underlying26 rfl HI1.out ?_)
          | (refine wpList_store_row (by rfl) 26 _ _ (by rfl) b3 (skipA R pc) (by rfl) (by rfl) 26 _ (by exact HZ2.out) HI1.out HS2.out HO1.out ?_))
        exact bodyPost_ret (results_cell_row rfl _ _ b3 26 (skipA R pc) (0, 0) _ rfl HF3.out Tryd.underlying26 rfl HI1.out) rfl ⟨rfl, HG3.out⟩
    · clear hbb
      have hS : RegsOk (skipA R pc) := hR.set (by decide) _
      go_enter Tryd.func7, Tryd.ntmps7
      iterate 8 (first | go_values | go_skip | go_guarded | go_step | go_upon | go_back)
      iterate 3 (first | go_values | go_skip | go_guarded | go_step | go_upon | go_back)
      obtain ⟨W, hW⟩ : ∃ W, W = ((w.alloc (Obj.cells R 26)).alloc (Obj.cells #[.bool wr, .int .i64 wid, .int .i64 reg, .int .u64 val] 28)).alloc (Obj.cells regs0.toArray 26) := ⟨_, rfl⟩
      rw [← hW]
      have hg : Grows w W := by rw [hW]; exact (((Grows.refl _).alloc _).alloc _).alloc _
      obtain ⟨b1, hb1⟩ : ∃ b, b = w.heap.size := ⟨_, rfl⟩
      obtain ⟨b2, hb2⟩ : ∃ b, b = w.heap.size + 1 := ⟨_, rfl⟩
      obtain ⟨b3, hb3⟩ : ∃ b, b = w.heap.size + 1 + 1 := ⟨_, rfl⟩
      rw [← hb3, ← hb2, ← hb1]
      have hR0 : Row W b1 R 26 := by
        rw [hW]; exact ((Row.new_at _ _ _ hb1).grows ((Grows.refl _).alloc _)).grows ((Grows.refl _).alloc _)
      have hA0 : Row W b2 #[.bool wr, .int .i64 wid, .int .i64 reg, .int .u64 val] 28 := by
        rw [hW]; exact (Row.new_at _ _ _ (by rw [hb2]; simp)).grows ((Grows.refl _).alloc _)
      have hZ0 : Row W b3 regs0.toArray 26 := by
        rw [hW]; exact Row.new_at _ _ _ (by rw [hb3]; simp)
      clear hW
      have hn : b1 ≠ b2 ∧ b1 ≠ b3 := by omega
      have HB := Lib.hid (show w.heap.size ≤ b1 ∧ w.heap.size ≤ b3 by omega)
      clear hb1 hb2 hb3
      have HI0 := Lib.hid (show (Tryd.prog.info? 26).map (·.size) = some R.size by rw [hR.size]; kernel_rfl)
      have HG := Lib.hid hg
      clear hg
      go_wp2_with (refine wpList_load_row rfl 26 _ rfl b1 rfl 26 R (0, 0) _ hR0 Tryd.underlying26 rfl HI0.out ?_)
      refine (skip_r hR hpc _).mono ?_
      rintro _ w1 ⟨rfl, g1, rfl⟩
      obtain ⟨W1, hW1⟩ : ∃ W1, W1 = W.grow g1 := ⟨_, rfl⟩
      have hR1 : Row W1 b1 R 26 := by rw [hW1]; exact hR0.grows (Grows.of _ _)
      have hA1 : Row W1 b2 #[.bool wr, .int .i64 wid, .int .i64 reg, .int .u64 val] 28 := by rw [hW1]; exact hA0.grows (Grows.of _ _)
      have hZ1 : Row W1 b3 regs0.toArray 26 := by rw [hW1]; exact hZ0.grows (Grows.of _ _)
      have HG1 := Lib.hid (show Grows w W1 by rw [hW1]; exact HG.out.grow _)
      rw [← hW1]
      clear hW1 hR0 hA0 hZ0 HG HI0
      have HR2 := Lib.hid (row_setRow hR1 (skipA R pc))
      have HA2 := Lib.hid (row_setRowOther hA1 hn.1 (skipA R pc))
      have HZ2 := Lib.hid (row_setRowOther hZ1 hn.2 (skipA R pc))
      have HG2 := Lib.hid (grows_setRow HG1.out (b := b1) HB.out.1 (skipA R pc))
      have HI1 := Lib.hid (show (Tryd.prog.info? 26).map (·.size) = some (skipA R pc).size by rw [hS.size]; kernel_rfl)
      have HS1 := Lib.hid (show R.size = (skipA R pc).size by rw [hS.size, hR.size])
      have HS2 := Lib.hid (show regs0.toArray.size = (skipA R pc).size by rw [hS.size]; rfl)
      have HO1 := Lib.hid hS.one
      have HT2 := Lib.hid (hT.grows HG2.out)
      obtain ⟨W2, hW2⟩ : ∃ W2, W2 = W1.setRow b1 (skipA R pc) := ⟨_, rfl⟩
      have a0 : W2.cell? ⟨b2, 0, none⟩ = some (.bool wr) := by rw [hW2]; exact HA2.out.cell 0
      have a1 : W2.cell? ⟨b2, 1, none⟩ = some (.int .i64 wid) := by rw [hW2]; exact HA2.out.cell 1
      have a2 : W2.cell? ⟨b2, 2, none⟩ = some (.int .i64 reg) := by rw [hW2]; exact HA2.out.cell 2
      have a3 : W2.cell? ⟨b2, 3, none⟩ = some (.int .u64 val) := by rw [hW2]; exact HA2.out.cell 3
      rw [← hW2] at HR2 HA2 HZ2 HG2 HT2
      have HW2 := Lib.hid hW2.symm
      clear hT hA1 hZ1 HG1 hW2 hpc
      clear hc
      have HF3 := Lib.hid (row_setRow HZ2.out (skipA R pc))
      have HG3 := Lib.hid (grows_setRow HG2.out (b := b3) HB.out.2 (skipA R pc))
      go_wp2_with (first
        | (refine wpList_store_row (by rfl) 26 _ _ (by rfl) b1 (skipA R pc) (by rfl) (by rfl) 26 _ (by exact hR1) HI1.out HS1.out HO1.out ?_; rw [HW2.out])
        | (refine wpList_load_row (by rfl) 26 _ (by rfl) b1 (by rfl) 26 (skipA R pc) (0, 0) _ (by exact HR2.out) Tryd.underlying26 rfl HI1.out ?_)
        | (refine wpList_store_row (by rfl) 26 _ _ (by rfl) b3 (skipA R pc) (by rfl) (by rfl) 26 _ (by exact HZ2.out) HI1.out HS2.out HO1.out ?_))
      exact bodyPost_ret (results_cell_row rfl _ _ b3 26 (skipA R pc) (0, 0) _ rfl HF3.out Tryd.underlying26 rfl HI1.out) rfl ⟨rfl, HG3.out⟩
  · rw [if_neg hc]
    have hb0 : bb = false := by
      cases bb
      · rfl
      · exact absurd (Or.inr (Or.inl (by rw [hbb rfl]; omega))) hc
    subst hb0
    have hwf : Hid (wr = false) := Lib.hid (by cases wr; rfl; exact absurd (Or.inl rfl) hc)
    clear hbb
    have hS : RegsOk (skipA R pc) := hR.set (by decide) _
    go_enter Tryd.func7, Tryd.ntmps7
    iterate 8 (first | go_values | go_skip | go_guarded | go_step | go_upon | go_back)
    iterate 3 (first | go_values | go_skip | go_guarded | go_step | go_upon | go_back)
    obtain ⟨W, hW⟩ : ∃ W, W = ((w.alloc (Obj.cells R 26)).alloc (Obj.cells #[.bool wr, .int .i64 wid, .int .i64 reg, .int .u64 val] 28)).alloc (Obj.cells regs0.toArray 26) := ⟨_, rfl⟩
    rw [← hW]
    have hg : Grows w W := by rw [hW]; exact (((Grows.refl _).alloc _).alloc _).alloc _
    obtain ⟨b1, hb1⟩ : ∃ b, b = w.heap.size := ⟨_, rfl⟩
    obtain ⟨b2, hb2⟩ : ∃ b, b = w.heap.size + 1 := ⟨_, rfl⟩
    obtain ⟨b3, hb3⟩ : ∃ b, b = w.heap.size + 1 + 1 := ⟨_, rfl⟩
    rw [← hb3, ← hb2, ← hb1]
    have hR0 : Row W b1 R 26 := by
      rw [hW]; exact ((Row.new_at _ _ _ hb1).grows ((Grows.refl _).alloc _)).grows ((Grows.refl _).alloc _)
    have hA0 : Row W b2 #[.bool wr, .int .i64 wid, .int .i64 reg, .int .u64 val] 28 := by
      rw [hW]; exact (Row.new_at _ _ _ (by rw [hb2]; simp)).grows ((Grows.refl _).alloc _)
    have hZ0 : Row W b3 regs0.toArray 26 := by
      rw [hW]; exact Row.new_at _ _ _ (by rw [hb3]; simp)
    clear hW
    have hn : b1 ≠ b2 ∧ b1 ≠ b3 := by omega
    have HB := Lib.hid (show w.heap.size ≤ b1 ∧ w.heap.size ≤ b3 by omega)
    clear hb1 hb2 hb3
    have HI0 := Lib.hid (show (Tryd.prog.info? 26).map (·.size) = some R.size by rw [hR.size]; kernel_rfl)
    have HG := Lib.hid hg
    clear hg
    go_wp2_with (refine wpList_load_row rfl 26 _ rfl b1 rfl 26 R (0, 0) _ hR0 Tryd.underlying26 rfl HI0.out ?_)
    refine (skip_r hR hpc _).mono ?_
    rintro _ w1 ⟨rfl, g1, rfl⟩
    obtain ⟨W1, hW1⟩ : ∃ W1, W1 = W.grow g1 := ⟨_, rfl⟩
    have hR1 : Row W1 b1 R 26 := by rw [hW1]; exact hR0.grows (Grows.of _ _)
    have hA1 : Row W1 b2 #[.bool wr, .int .i64 wid, .int .i64 reg, .int .u64 val] 28 := by rw [hW1]; exact hA0.grows (Grows.of _ _)
    have hZ1 : Row W1 b3 regs0.toArray 26 := by rw [hW1]; exact hZ0.grows (Grows.of _ _)
    have HG1 := Lib.hid (show Grows w W1 by rw [hW1]; exact HG.out.grow _)
    rw [← hW1]
    clear hW1 hR0 hA0 hZ0 HG HI0
    have HR2 := Lib.hid (row_setRow hR1 (skipA R pc))
    have HA2 := Lib.hid (row_setRowOther hA1 hn.1 (skipA R pc))
    have HZ2 := Lib.hid (row_setRowOther hZ1 hn.2 (skipA R pc))
    have HG2 := Lib.hid (grows_setRow HG1.out (b := b1) HB.out.1 (skipA R pc))
    have HI1 := Lib.hid (show (Tryd.prog.info? 26).map (·.size) = some (skipA R pc).size by rw [hS.size]; kernel_rfl)
    have HS1 := Lib.hid (show R.size = (skipA R pc).size by rw [hS.size, hR.size])
    have HS2 := Lib.hid (show regs0.toArray.size = (skipA R pc).size by rw [hS.size]; rfl)
    have HO1 := Lib.hid hS.one
    have HT2 := Lib.hid (hT.grows HG2.out)
    obtain ⟨W2, hW2⟩ : ∃ W2, W2 = W1.setRow b1 (skipA R pc) := ⟨_, rfl⟩
    have a0 : W2.cell? ⟨b2, 0, none⟩ = some (.bool wr) := by rw [hW2]; exact HA2.out.cell 0
    have a1 : W2.cell? ⟨b2, 1, none⟩ = some (.int .i64 wid) := by rw [hW2]; exact HA2.out.cell 1
    have a2 : W2.cell? ⟨b2, 2, none⟩ = some (.int .i64 reg) := by rw [hW2]; exact HA2.out.cell 2
    have a3 : W2.cell? ⟨b2, 3, none⟩ = some (.int .u64 val) := by rw [hW2]; exact HA2.out.cell 3
    rw [← hW2] at HR2 HA2 HZ2 HG2 HT2
    have HW2 := Lib.hid hW2.symm
    clear hT hA1 hZ1 HG1 hW2 hpc
    have hw := hwf.out
    clear hwf
    subst hw
    obtain ⟨j, rfl⟩ : ∃ j : Nat, reg = j := ⟨reg.toNat, by omega⟩
    have hj1 : 1 ≤ j := by omega
    have hj15 : j < 16 := by omega
    clear hc
    obtain ⟨xj, hxj⟩ := hS.at (i := j) (by omega)
    have cj : W2.cell? ⟨b1, j, none⟩ = some (.int .u64 xj) := by rw [HR2.out.cell]; exact hxj
    have fj := HR2.out.frozen j
    have o0 : (0 : Int) ≤ j := by omega
    have o1 : (j : Int) < 16 := by omega
    have h1' : (1 : Int) ≤ j := by omega
    have HXJ := Lib.hid hxj
    have HXS : Hid (∀ y : Int, ((skipA R pc).setIfInBounds j (.int .u64 y))[j]? = some (.int .u64 y)) := Lib.hid fun y => by
      rw [Array.getElem?_setIfInBounds, if_pos rfl, if_pos (by rw [hS.size]; omega)]
    clear hxj
    go_wp2_with (first
      | (refine wpList_store_row (by rfl) 26 _ _ (by rfl) b1 (skipA R pc) (by rfl) (by rfl) 26 _ (by exact hR1) HI1.out HS1.out HO1.out ?_; rw [HW2.out]))
    clear heq
    go_region_held3 (fun w' => w'.cell? ⟨b2, 1, none⟩ = some (.int .i64 wid) ∧ w'.cell? ⟨b2, 2, none⟩ = some (.int .i64 j) ∧ w'.cell? ⟨b1, j, none⟩ = some (.int .u64 (cellV w' b1 j)) ∧ w'.frozen? ⟨b1, j, none⟩ = false) (first
      | exact fin_keep (row_setOther HA4.out (p := ⟨b1, j, none⟩) hn.1 _) (HR4.out.set j _) (HXS.out _)
      | exact fin_keep HA4.out HR4.out HXJ.out
      | exact fin_keep HA3.out HR3.out HXJ.out
      | exact fin_keep (HA2.out.grows ((Grows.refl _).drew)) (HR2.out.grows ((Grows.refl _).drew)) HXJ.out)
      (first
      | (go_at_call 16; refine (store_all V wid _ (HT2.out.grows ((Grows.refl _).drew))).mono ?_; rintro _ w3 ⟨A3, n3, c3, rfl, hg3, hld⟩
         have HR3 := Lib.hid ((HR2.out.grows ((Grows.refl _).drew)).grows hg3)
         have HA3 := Lib.hid ((HA2.out.grows ((Grows.refl _).drew)).grows hg3)
         have HZ3 := Lib.hid ((HZ2.out.grows ((Grows.refl _).drew)).grows hg3)
         have HG3 := Lib.hid ((HG2.out.drew).trans hg3)
         clear hg3)
      | (go_at_call 15; refine hld.mono ?_; rintro _ w4 ⟨ok, rfl, hg4⟩
         have HR4 := Lib.hid (HR3.out.grows hg4)
         have HA4 := Lib.hid (HA3.out.grows hg4)
         have HZ4 := Lib.hid (HZ3.out.grows hg4)
         have HG4 := Lib.hid (HG3.out.trans hg4)
         clear hg4))
    have hFo : RegsOk ((skipA R pc).setIfInBounds j (.int .u64 (ldV V wid : Nat))) := RegsOk.set hS (by omega) _
    obtain ⟨ws, hws⟩ : ∃ ws, ws = w4.setCell ⟨b1, j, none⟩ (.int .u64 (ldV V wid : Nat)) := ⟨_, rfl⟩
    have hR5 := HR4.out.set j (.int .u64 (ldV V wid : Nat))
    have hZ5 := row_setOther HZ4.out (p := ⟨b1, j, none⟩) hn.2 (.int .u64 (ldV V wid : Nat))
    have hG5 := HG4.out.setCell (p := ⟨b1, j, none⟩) HB.out.1 (.int .u64 (ldV V wid : Nat))
    obtain ⟨Z, hZd⟩ : ∃ Z, Z = (skipA R pc).setIfInBounds j (.int .u64 (ldV V wid : Nat)) := ⟨_, rfl⟩
    rw [← hZd] at hR5 hFo
    have HZd := Lib.hid hZd
    rw [← hws] at hR5 hZ5 hG5 ⊢
    have HR5 := Lib.hid hR5
    have HZ5 := Lib.hid hZ5
    have HI5 := Lib.hid (show (Tryd.prog.info? 26).map (·.size) = some Z.size by rw [hFo.size]; kernel_rfl)
    have HS5 := Lib.hid (show regs0.toArray.size = Z.size by rw [hFo.size]; rfl)
    have HO5 := Lib.hid hFo.one
    have HF5 := Lib.hid (row_setRow hZ5 Z)
    have HG6 := Lib.hid (grows_setRow hG5 (b := b3) HB.out.2 Z)
    clear hws hZd hR5 hZ5 hG5 hFo HR4 HZ4 HA4 HG4 HR3 HZ3 HA3 HG3 HR2 HA2 HZ2 HG2 hld HXS HXJ a0 a1 a2 a3
    go_wp2_with (first
      | (refine wpList_load_row (by rfl) 26 _ (by rfl) b1 (by rfl) 26 Z (0, 0) _ (by exact HR5.out) Tryd.underlying26 rfl HI5.out ?_)
      | (refine wpList_store_row (by rfl) 26 _ _ (by rfl) b3 Z (by rfl) (by rfl) 26 _ (by exact HZ5.out) HI5.out HS5.out HO5.out ?_))
    exact bodyPost_ret (results_cell_row rfl _ _ b3 26 Z (0, 0) _ rfl HF5.out Tryd.underlying26 rfl HI5.out) rfl ⟨congrArg (fun z => Ending.returned (Value.agg z)) HZd.out, HG6.out⟩
set_option maxRecDepth 100000 in
set_option maxHeartbeats 2000000 in
theorem rfinish_r {R : Array Value} (hR : RegsOk R) {pc : Int} (hpc : R[16]? = some (.int .u64 pc)) (wr : Bool) (wid reg val : Int) (V : Nat) (w : World) :
    Calls Tryd.prog 8 #[.agg R, .agg #[.bool wr, .int .i64 wid, .int .i64 reg, .int .u64 val], .int .u64 V] w fun r w' => r = .returned (.agg (finA R pc wr reg (ldV V wid))) ∧ Grows w w' := by
  have hT : True := trivial
  unfold finA
  by_cases hc : wr = true ∨ reg < 1 ∨ 15 < reg
  · rw [if_pos hc]
    have hS : RegsOk (skipA R pc) := hR.set (by decide) _
    go_enter Tryd.func8, Tryd.ntmps8
    iterate 8 (first | go_values | go_skip | go_guarded | go_step | go_upon | go_back)
    iterate 3 (first | go_values | go_skip | go_guarded | go_step | go_upon | go_back)
    obtain ⟨W, hW⟩ : ∃ W, W = ((w.alloc (Obj.cells R 26)).alloc (Obj.cells #[.bool wr, .int .i64 wid, .int .i64 reg, .int .u64 val] 32)).alloc (Obj.cells regs0.toArray 26) := ⟨_, rfl⟩
    rw [← hW]
    have hg : Grows w W := by rw [hW]; exact (((Grows.refl _).alloc _).alloc _).alloc _
    obtain ⟨b1, hb1⟩ : ∃ b, b = w.heap.size := ⟨_, rfl⟩
    obtain ⟨b2, hb2⟩ : ∃ b, b = w.heap.size + 1 := ⟨_, rfl⟩
    obtain ⟨b3, hb3⟩ : ∃ b, b = w.heap.size + 1 + 1 := ⟨_, rfl⟩
    rw [← hb3, ← hb2, ← hb1]
    have hR0 : Row W b1 R 26 := by
      rw [hW]; exact ((Row.new_at _ _ _ hb1).grows ((Grows.refl _).alloc _)).grows ((Grows.refl _).alloc _)
    have hA0 : Row W b2 #[.bool wr, .int .i64 wid, .int .i64 reg, .int .u64 val] 32 := by
      rw [hW]; exact (Row.new_at _ _ _ (by rw [hb2]; simp)).grows ((Grows.refl _).alloc _)
    have hZ0 : Row W b3 regs0.toArray 26 := by
      rw [hW]; exact Row.new_at _ _ _ (by rw [hb3]; simp)
    clear hW
    have hn : b1 ≠ b2 ∧ b1 ≠ b3 := by omega
    have HB := Lib.hid (show w.heap.size ≤ b1 ∧ w.heap.size ≤ b3 by omega)
    clear hb1 hb2 hb3
    have HI0 := Lib.hid (show (Tryd.prog.info? 26).map (·.size) = some R.size by rw [hR.size]; kernel_rfl)
    have HG := Lib.hid hg
    clear hg
    go_wp2_with (refine wpList_load_row rfl 26 _ rfl b1 rfl 26 R (0, 0) _ hR0 Tryd.underlying26 rfl HI0.out ?_)
    refine (rskip_r hR hpc _).mono ?_
    rintro _ w1 ⟨rfl, g1, rfl⟩
    obtain ⟨W1, hW1⟩ : ∃ W1, W1 = W.grow g1 := ⟨_, rfl⟩
    have hR1 : Row W1 b1 R 26 := by rw [hW1]; exact hR0.grows (Grows.of _ _)
    have hA1 : Row W1 b2 #[.bool wr, .int .i64 wid, .int .i64 reg, .int .u64 val] 32 := by rw [hW1]; exact hA0.grows (Grows.of _ _)
    have hZ1 : Row W1 b3 regs0.toArray 26 := by rw [hW1]; exact hZ0.grows (Grows.of _ _)
    have HG1 := Lib.hid (show Grows w W1 by rw [hW1]; exact HG.out.grow _)
    rw [← hW1]
    clear hW1 hR0 hA0 hZ0 HG HI0
    have HR2 := Lib.hid (row_setRow hR1 (skipA R pc))
    have HA2 := Lib.hid (row_setRowOther hA1 hn.1 (skipA R pc))
    have HZ2 := Lib.hid (row_setRowOther hZ1 hn.2 (skipA R pc))
    have HG2 := Lib.hid (grows_setRow HG1.out (b := b1) HB.out.1 (skipA R pc))
    have HI1 := Lib.hid (show (Tryd.prog.info? 26).map (·.size) = some (skipA R pc).size by rw [hS.size]; kernel_rfl)
    have HS1 := Lib.hid (show R.size = (skipA R pc).size by rw [hS.size, hR.size])
    have HS2 := Lib.hid (show regs0.toArray.size = (skipA R pc).size by rw [hS.size]; rfl)
    have HO1 := Lib.hid hS.one
    obtain ⟨W2, hW2⟩ : ∃ W2, W2 = W1.setRow b1 (skipA R pc) := ⟨_, rfl⟩
    have a0 : W2.cell? ⟨b2, 0, none⟩ = some (.bool wr) := by rw [hW2]; exact HA2.out.cell 0
    have a1 : W2.cell? ⟨b2, 1, none⟩ = some (.int .i64 wid) := by rw [hW2]; exact HA2.out.cell 1
    have a2 : W2.cell? ⟨b2, 2, none⟩ = some (.int .i64 reg) := by rw [hW2]; exact HA2.out.cell 2
    have a3 : W2.cell? ⟨b2, 3, none⟩ = some (.int .u64 val) := by rw [hW2]; exact HA2.out.cell 3
    rw [← hW2] at HR2 HA2 HZ2 HG2
    have HW2 := Lib.hid hW2.symm
    clear hT hA1 hZ1 HG1 hW2 hpc
    cases wr
    · by_cases h1 : reg < 1
      · clear hc
        have HF3 := Lib.hid (row_setRow HZ2.out (skipA R pc))
        have HG3 := Lib.hid (grows_setRow HG2.out (b := b3) HB.out.2 (skipA R pc))
        go_wp2_with (first
          | (refine wpList_store_row (by rfl) 26 _ _ (by rfl) b1 (skipA R pc) (by rfl) (by rfl) 26 _ (by exact hR1) HI1.out HS1.out HO1.out ?_; rw [HW2.out])
          | (refine wpList_load_row (by rfl) 26 _ (by rfl) b1 (by rfl) 26 (skipA R pc) (0, 0) _ (by exact HR2.out) Tryd.underlying26 rfl HI1.out ?_)
          | (refine wpList_store_row (by rfl) 26 _ _ (by rfl) b3 (skipA R pc) (by rfl) (by rfl) 26 _ (by exact HZ2.out) HI1.out HS2.out HO1.out ?_))
        exact bodyPost_ret (results_cell_row rfl _ _ b3 26 (skipA R pc) (0, 0) _ rfl HF3.out Tryd.underlying26 rfl HI1.out) rfl ⟨rfl, HG3.out⟩
      · have h15 : 15 < reg := by rcases hc with hc | hc | hc; cases hc; exact absurd hc h1; exact hc
        clear hc
        have HF3 := Lib.hid (row_setRow HZ2.out (skipA R pc))
        have HG3 := Lib.hid (grows_setRow HG2.out (b := b3) HB.out.2 (skipA R pc))
        go_wp2_with (first
          | (refine wpList_store_row (by rfl) 26 _ _ (by rfl) b1 (skipA R pc) (by rfl) (by rfl) 26 _ (by exact hR1) HI1.out HS1.out HO1.out ?_; rw [HW2.out])
          | (refine wpList_load_row (by rfl) 26 _ (by rfl) b1 (by rfl) 26 (skipA R pc) (0, 0) _ (by exact HR2.out) Tryd.underlying26 rfl HI1.out ?_)
          | (refine wpList_store_row (by rfl) 26 _ _ (by rfl) b3 (skipA R pc) (by rfl) (by rfl) 26 _ (by exact HZ2.out) HI1.out HS2.out HO1.out ?_))
        exact bodyPost_ret (results_cell_row rfl _ _ b3 26 (skipA R pc) (0, 0) _ rfl HF3.out Tryd.underlying26 rfl HI1.out) rfl ⟨rfl, HG3.out⟩
    · clear hc
      have HF3 := Lib.hid (row_setRow HZ2.out (skipA R pc))
      have HG3 := Lib.hid (grows_setRow HG2.out (b := b3) HB.out.2 (skipA R pc))
      go_wp2_with (first
        | (refine wpList_store_row (by rfl) 26 _ _ (by rfl) b1 (skipA R pc) (by rfl) (by rfl) 26 _ (by exact hR1) HI1.out HS1.out HO1.out ?_; rw [HW2.out])
        | (refine wpList_load_row (by rfl) 26 _ (by rfl) b1 (by rfl) 26 (skipA R pc) (0, 0) _ (by exact HR2.out) Tryd.underlying26 rfl HI1.out ?_)
        | (refine wpList_store_row (by rfl) 26 _ _ (by rfl) b3 (skipA R pc) (by rfl) (by rfl) 26 _ (by exact HZ2.out) HI1.out HS2.out HO1.out ?_))
      exact bodyPost_ret (results_cell_row rfl _ _ b3 26 (skipA R pc) (0, 0) _ rfl HF3.out Tryd.underlying26 rfl HI1.out) rfl ⟨rfl, HG3.out⟩
  · rw [if_neg hc]
    have hwf : Hid (wr = false) := Lib.hid (by cases wr; rfl; exact absurd (Or.inl rfl) hc)
    have hS : RegsOk (skipA R pc) := hR.set (by decide) _
    go_enter Tryd.func8, Tryd.ntmps8
    iterate 8 (first | go_values | go_skip | go_guarded | go_step | go_upon | go_back)
    iterate 3 (first | go_values | go_skip | go_guarded | go_step | go_upon | go_back)
    obtain ⟨W, hW⟩ : ∃ W, W = ((w.alloc (Obj.cells R 26)).alloc (Obj.cells #[.bool wr, .int .i64 wid, .int .i64 reg, .int .u64 val] 32)).alloc (Obj.cells regs0.toArray 26) := ⟨_, rfl⟩
    rw [← hW]
    have hg : Grows w W := by rw [hW]; exact (((Grows.refl _).alloc _).alloc _).alloc _
    obtain ⟨b1, hb1⟩ : ∃ b, b = w.heap.size := ⟨_, rfl⟩
    obtain ⟨b2, hb2⟩ : ∃ b, b = w.heap.size + 1 := ⟨_, rfl⟩
    obtain ⟨b3, hb3⟩ : ∃ b, b = w.heap.size + 1 + 1 := ⟨_, rfl⟩
    rw [← hb3, ← hb2, ← hb1]
    have hR0 : Row W b1 R 26 := by
      rw [hW]; exact ((Row.new_at _ _ _ hb1).grows ((Grows.refl _).alloc _)).grows ((Grows.refl _).alloc _)
    have hA0 : Row W b2 #[.bool wr, .int .i64 wid, .int .i64 reg, .int .u64 val] 32 := by
      rw [hW]; exact (Row.new_at _ _ _ (by rw [hb2]; simp)).grows ((Grows.refl _).alloc _)
    have hZ0 : Row W b3 regs0.toArray 26 := by
      rw [hW]; exact Row.new_at _ _ _ (by rw [hb3]; simp)
    clear hW
    have hn : b1 ≠ b2 ∧ b1 ≠ b3 := by omega
    have HB := Lib.hid (show w.heap.size ≤ b1 ∧ w.heap.size ≤ b3 by omega)
    clear hb1 hb2 hb3
    have HI0 := Lib.hid (show (Tryd.prog.info? 26).map (·.size) = some R.size by rw [hR.size]; kernel_rfl)
    have HG := Lib.hid hg
    clear hg
    go_wp2_with (refine wpList_load_row rfl 26 _ rfl b1 rfl 26 R (0, 0) _ hR0 Tryd.underlying26 rfl HI0.out ?_)
    refine (rskip_r hR hpc _).mono ?_
    rintro _ w1 ⟨rfl, g1, rfl⟩
    obtain ⟨W1, hW1⟩ : ∃ W1, W1 = W.grow g1 := ⟨_, rfl⟩
    have hR1 : Row W1 b1 R 26 := by rw [hW1]; exact hR0.grows (Grows.of _ _)
    have hA1 : Row W1 b2 #[.bool wr, .int .i64 wid, .int .i64 reg, .int .u64 val] 32 := by rw [hW1]; exact hA0.grows (Grows.of _ _)
    have hZ1 : Row W1 b3 regs0.toArray 26 := by rw [hW1]; exact hZ0.grows (Grows.of _ _)
    have HG1 := Lib.hid (show Grows w W1 by rw [hW1]; exact HG.out.grow _)
    rw [← hW1]
    clear hW1 hR0 hA0 hZ0 HG HI0
    have HR2 := Lib.hid (row_setRow hR1 (skipA R pc))
    have HA2 := Lib.hid (row_setRowOther hA1 hn.1 (skipA R pc))
    have HZ2 := Lib.hid (row_setRowOther hZ1 hn.2 (skipA R pc))
    have HG2 := Lib.hid (grows_setRow HG1.out (b := b1) HB.out.1 (skipA R pc))
    have HI1 := Lib.hid (show (Tryd.prog.info? 26).map (·.size) = some (skipA R pc).size by rw [hS.size]; kernel_rfl)
    have HS1 := Lib.hid (show R.size = (skipA R pc).size by rw [hS.size, hR.size])
    have HS2 := Lib.hid (show regs0.toArray.size = (skipA R pc).size by rw [hS.size]; rfl)
    have HO1 := Lib.hid hS.one
    obtain ⟨W2, hW2⟩ : ∃ W2, W2 = W1.setRow b1 (skipA R pc) := ⟨_, rfl⟩
    have a0 : W2.cell? ⟨b2, 0, none⟩ = some (.bool wr) := by rw [hW2]; exact HA2.out.cell 0
    have a1 : W2.cell? ⟨b2, 1, none⟩ = some (.int .i64 wid) := by rw [hW2]; exact HA2.out.cell 1
    have a2 : W2.cell? ⟨b2, 2, none⟩ = some (.int .i64 reg) := by rw [hW2]; exact HA2.out.cell 2
    have a3 : W2.cell? ⟨b2, 3, none⟩ = some (.int .u64 val) := by rw [hW2]; exact HA2.out.cell 3
    rw [← hW2] at HR2 HA2 HZ2 HG2
    have HW2 := Lib.hid hW2.symm
    clear hT hA1 hZ1 HG1 hW2 hpc
    have hw := hwf.out
    clear hwf
    subst hw
    obtain ⟨j, rfl⟩ : ∃ j : Nat, reg = j := ⟨reg.toNat, by omega⟩
    have hj1 : 1 ≤ j := by omega
    have hj15 : j < 16 := by omega
    have h15' : ¬ (15 : Int) < j := by omega
    have h1'' : ¬ (j : Int) < 1 := by omega
    clear hc
    obtain ⟨xj, hxj⟩ := hS.at (i := j) (by omega)
    have cj : W2.cell? ⟨b1, j, none⟩ = some (.int .u64 xj) := by rw [HR2.out.cell]; exact hxj
    have fj := HR2.out.frozen j
    have o0 : (0 : Int) ≤ j := by omega
    have o1 : (j : Int) < 16 := by omega
    have h1' : (1 : Int) ≤ j := by omega
    have HXJ := Lib.hid hxj
    have HXS : Hid (∀ y : Int, ((skipA R pc).setIfInBounds j (.int .u64 y))[j]? = some (.int .u64 y)) := Lib.hid fun y => by
      rw [Array.getElem?_setIfInBounds, if_pos rfl, if_pos (by rw [hS.size]; omega)]
    clear hxj
    go_wp2_with (first
      | (refine wpList_store_row (by rfl) 26 _ _ (by rfl) b1 (skipA R pc) (by rfl) (by rfl) 26 _ (by exact hR1) HI1.out HS1.out HO1.out ?_; rw [HW2.out]))
    skip
    go_region_held3 (fun w' => w'.cell? ⟨b2, 1, none⟩ = some (.int .i64 wid) ∧ w'.cell? ⟨b2, 2, none⟩ = some (.int .i64 j) ∧ w'.cell? ⟨b1, j, none⟩ = some (.int .u64 (cellV w' b1 j)) ∧ w'.frozen? ⟨b1, j, none⟩ = false) (first
      | exact fin_keep (row_setOther HA4.out (p := ⟨b1, j, none⟩) hn.1 _) (HR4.out.set j _) (HXS.out _)
      | exact fin_keep HA4.out HR4.out HXJ.out
      | exact fin_keep HA3.out HR3.out HXJ.out
      | exact fin_keep (HA2.out.grows ((Grows.refl _).drew)) (HR2.out.grows ((Grows.refl _).drew)) HXJ.out)
      (first
      | (go_at_call 18; refine (rstore_all V wid _).mono ?_; rintro _ w3 ⟨A3, n3, c3, rfl, hg3, hld⟩
         have HR3 := Lib.hid ((HR2.out.grows ((Grows.refl _).drew)).grows hg3)
         have HA3 := Lib.hid ((HA2.out.grows ((Grows.refl _).drew)).grows hg3)
         have HZ3 := Lib.hid ((HZ2.out.grows ((Grows.refl _).drew)).grows hg3)
         have HG3 := Lib.hid ((HG2.out.drew).trans hg3)
         clear hg3)
      | (go_at_call 17; refine hld.mono ?_; rintro _ w4 ⟨ok, rfl, hg4⟩
         have HR4 := Lib.hid (HR3.out.grows hg4)
         have HA4 := Lib.hid (HA3.out.grows hg4)
         have HZ4 := Lib.hid (HZ3.out.grows hg4)
         have HG4 := Lib.hid (HG3.out.trans hg4)
         clear hg4))
    have hFo : RegsOk ((skipA R pc).setIfInBounds j (.int .u64 (ldV V wid : Nat))) := RegsOk.set hS (by omega) _
    obtain ⟨ws, hws⟩ : ∃ ws, ws = w4.setCell ⟨b1, j, none⟩ (.int .u64 (ldV V wid : Nat)) := ⟨_, rfl⟩
    have hR5 := HR4.out.set j (.int .u64 (ldV V wid : Nat))
    have hZ5 := row_setOther HZ4.out (p := ⟨b1, j, none⟩) hn.2 (.int .u64 (ldV V wid : Nat))
    have hG5 := HG4.out.setCell (p := ⟨b1, j, none⟩) HB.out.1 (.int .u64 (ldV V wid : Nat))
    obtain ⟨Z, hZd⟩ : ∃ Z, Z = (skipA R pc).setIfInBounds j (.int .u64 (ldV V wid : Nat)) := ⟨_, rfl⟩
    rw [← hZd] at hR5 hFo
    have HZd := Lib.hid hZd
    rw [← hws] at hR5 hZ5 hG5 ⊢
    have HR5 := Lib.hid hR5
    have HZ5 := Lib.hid hZ5
    have HI5 := Lib.hid (show (Tryd.prog.info? 26).map (·.size) = some Z.size by rw [hFo.size]; kernel_rfl)
    have HS5 := Lib.hid (show regs0.toArray.size = Z.size by rw [hFo.size]; rfl)
    have HO5 := Lib.hid hFo.one
    have HF5 := Lib.hid (row_setRow hZ5 Z)
    have HG6 := Lib.hid (grows_setRow hG5 (b := b3) HB.out.2 Z)
    clear hws hZd hR5 hZ5 hG5 hFo HR4 HZ4 HA4 HG4 HR3 HZ3 HA3 HG3 HR2 HA2 HZ2 HG2 hld HXS HXJ a0 a1 a2 a3
    go_wp2_with (first
      | (refine wpList_load_row (by rfl) 26 _ (by rfl) b1 (by rfl) 26 Z (0, 0) _ (by exact HR5.out) Tryd.underlying26 rfl HI5.out ?_)
      | (refine wpList_store_row (by rfl) 26 _ _ (by rfl) b3 Z (by rfl) (by rfl) 26 _ (by exact HZ5.out) HI5.out HS5.out HO5.out ?_))
    exact bodyPost_ret (results_cell_row rfl _ _ b3 26 Z (0, 0) _ rfl HF5.out Tryd.underlying26 rfl HI5.out) rfl ⟨congrArg (fun z => Ending.returned (Value.agg z)) HZd.out, HG6.out⟩
end Go.Proofs.YtjbgamifkgeodaaDoor
