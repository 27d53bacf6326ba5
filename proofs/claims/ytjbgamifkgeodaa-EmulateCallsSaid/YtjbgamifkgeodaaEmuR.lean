/- What Skip, Fault and Answer of the package emulate, and of its reference, compute, of registers that are any row of 18 numbers. -/
import Derived.Test.YtjbgamifkgeodaaEmu
import Derived.BigRegion
import Derived.DeepKeys
namespace Go
theorem quiet_load_row {P : Program} {C : World → Prop} {o : Oper} {a : Act} {K : Act → Prop} (ty : TypeId) (x : Operand) (ho : o.op = .load ty x) (g : Nat) (hx : a.eval x = .pointer (some ⟨g, 0, none⟩)) (t : TypeId) (cs : Array Value) (d : TypeDesc)
    (hrow : ∀ w, C w → Row w g cs t) (hu : P.underlying ty = some d) (hd : (match d with | .struct _ | .array _ _ => true | _ => false) = true) (hi : (P.info? ty).map (·.size) = some cs.size) (hk : K (a.put o.dst (.agg cs))) : o.quiet P a C K := by
  refine ⟨.agg cs, fun w hw => ?_, hk⟩
  unfold Oper.quietAt execOp
  simp only [ho, hx, Instr.loadAt, Instr.sureAddr, Sem.run_bind, Sem.run_pure, Result.andThen_ok, run_loadVar_row w g t ty cs (0, 0) d (hrow w hw) hu hd hi]
  exact ⟨rfl, rfl⟩
theorem Row.set {w : World} {b : Nat} {c : Array Value} {t : TypeId} (h : Row w b c t) (i : Nat) (v : Value) : Row (w.setCell ⟨b, i, none⟩ v) b (c.setIfInBounds i v) t := by
  unfold Row at *
  show (w.heap.modify b _)[b]? = _
  rw [Array.getElem?_modify, if_pos rfl, h]
  rfl
end Go
namespace Go.Proofs.Ytjbgamifkgeodaa
open Go Go.RowKit
set_option linter.unusedSimpArgs false
set_option linter.unusedVariables false
def RegsOk (R : Array Value) : Prop := ∃ x0 x1 x2 x3 x4 x5 x6 x7 x8 x9 x10 x11 x12 x13 x14 x15 pc m : Int, R = #[.int .u64 x0, .int .u64 x1, .int .u64 x2, .int .u64 x3, .int .u64 x4, .int .u64 x5, .int .u64 x6, .int .u64 x7, .int .u64 x8, .int .u64 x9, .int .u64 x10, .int .u64 x11, .int .u64 x12, .int .u64 x13, .int .u64 x14, .int .u64 x15, .int .u64 pc, .int .i64 m]
theorem RegsOk.size {R : Array Value} (h : RegsOk R) : R.size = 18 := by
  obtain ⟨x0, x1, x2, x3, x4, x5, x6, x7, x8, x9, x10, x11, x12, x13, x14, x15, pc, m, rfl⟩ := h; rfl
theorem RegsOk.one {R : Array Value} (h : RegsOk R) : R.all (·.oneCell') = true := by
  obtain ⟨x0, x1, x2, x3, x4, x5, x6, x7, x8, x9, x10, x11, x12, x13, x14, x15, pc, m, rfl⟩ := h; simp [Value.oneCell']
theorem RegsOk.at {R : Array Value} (h : RegsOk R) {i : Nat} (hi : i < 17) : ∃ x, R[i]? = some (.int .u64 x) := by
  obtain ⟨x0, x1, x2, x3, x4, x5, x6, x7, x8, x9, x10, x11, x12, x13, x14, x15, pc, m, rfl⟩ := h
  have : i = 0 ∨ i = 1 ∨ i = 2 ∨ i = 3 ∨ i = 4 ∨ i = 5 ∨ i = 6 ∨ i = 7 ∨ i = 8 ∨ i = 9 ∨ i = 10 ∨ i = 11 ∨ i = 12 ∨ i = 13 ∨ i = 14 ∨ i = 15 ∨ i = 16 := by omega
  rcases this with rfl | rfl | rfl | rfl | rfl | rfl | rfl | rfl | rfl | rfl | rfl | rfl | rfl | rfl | rfl | rfl | rfl
  all_goals exact ⟨_, rfl⟩
theorem RegsOk.set {R : Array Value} (h : RegsOk R) {i : Nat} (hi : i < 17) (x : Int) : RegsOk (R.setIfInBounds i (.int .u64 x)) := by
  obtain ⟨x0, x1, x2, x3, x4, x5, x6, x7, x8, x9, x10, x11, x12, x13, x14, x15, pc, m, rfl⟩ := h
  have : i = 0 ∨ i = 1 ∨ i = 2 ∨ i = 3 ∨ i = 4 ∨ i = 5 ∨ i = 6 ∨ i = 7 ∨ i = 8 ∨ i = 9 ∨ i = 10 ∨ i = 11 ∨ i = 12 ∨ i = 13 ∨ i = 14 ∨ i = 15 ∨ i = 16 := by omega
  rcases this with rfl | rfl | rfl | rfl | rfl | rfl | rfl | rfl | rfl | rfl | rfl | rfl | rfl | rfl | rfl | rfl | rfl
  all_goals exact ⟨_, _, _, _, _, _, _, _, _, _, _, _, _, _, _, _, _, _, rfl⟩
theorem refl_items {P : Program} (w : World) (d : Nat) (e : TypeId) (k : IntKind) (he : P.underlying e = some (.int k)) (xs : Array Value) : ∀ (is : List Nat), (∀ i ∈ is, ∃ x, (part e xs (i * 1)).run P w = .ok (.int k x) w) → (Op.eqItems (d + 1) e 1 xs xs is).run P w = .ok true w
  | [], _ => by simp [Op.eqItems]
  | i :: is, h => by
    obtain ⟨x, hx⟩ := h i (by simp)
    have ih := refl_items w d e k he xs is (fun j hj => h j (by simp [hj]))
    simp only [Op.eqItems, Sem.run_bind, hx, Result.andThen_ok, run_equalIn_int w d e k k x x he, beq_self_eq_true]
    simpa using ih
theorem eq16 (x0 x1 x2 x3 x4 x5 x6 x7 x8 x9 x10 x11 x12 x13 x14 x15 : Int) (w : World) : (Op.equalIn 9999 30 (.agg #[.int .u64 x0, .int .u64 x1, .int .u64 x2, .int .u64 x3, .int .u64 x4, .int .u64 x5, .int .u64 x6, .int .u64 x7, .int .u64 x8, .int .u64 x9, .int .u64 x10, .int .u64 x11, .int .u64 x12, .int .u64 x13, .int .u64 x14, .int .u64 x15]) (.agg #[.int .u64 x0, .int .u64 x1, .int .u64 x2, .int .u64 x3, .int .u64 x4, .int .u64 x5, .int .u64 x6, .int .u64 x7, .int .u64 x8, .int .u64 x9, .int .u64 x10, .int .u64 x11, .int .u64 x12, .int .u64 x13, .int .u64 x14, .int .u64 x15])).run Try.prog w = .ok true w := by
  obtain ⟨i, hi⟩ := info_of_underlying Try.underlying22
  rw [run_equalIn_array w 9998 _ _ Try.underlying30 hi]
  rw [show Try.prog.cellsOf 22 = 1 by kernel_rfl]
  refine refl_items w 9997 22 .u64 Try.underlying22 _ _ (fun i hi => ?_)
  have : i = 0 ∨ i = 1 ∨ i = 2 ∨ i = 3 ∨ i = 4 ∨ i = 5 ∨ i = 6 ∨ i = 7 ∨ i = 8 ∨ i = 9 ∨ i = 10 ∨ i = 11 ∨ i = 12 ∨ i = 13 ∨ i = 14 ∨ i = 15 := by simp at hi; omega
  rcases this with rfl | rfl | rfl | rfl | rfl | rfl | rfl | rfl | rfl | rfl | rfl | rfl | rfl | rfl | rfl | rfl
  all_goals exact ⟨_, by simp [go_sem]; rfl⟩
theorem neq_regs {R : Array Value} (h : RegsOk R) (w : World) : (binOp .neq 32 (.agg R) (.agg R)).run Try.prog w = .ok (.bool false) w := by
  obtain ⟨x0, x1, x2, x3, x4, x5, x6, x7, x8, x9, x10, x11, x12, x13, x14, x15, pc, m, rfl⟩ := h
  have := eq16 x0 x1 x2 x3 x4 x5 x6 x7 x8 x9 x10 x11 x12 x13 x14 x15
  simp [go_sem, this]
def skipA (R : Array Value) (pc : Int) : Array Value := R.setIfInBounds 16 (.int .u64 (IntKind.u64.wrap (pc + 4)))
theorem skip_r {R : Array Value} (hR : RegsOk R) {pc : Int} (hpc : R[16]? = some (.int .u64 pc)) (w : World) :
    Calls Try.prog 11 #[.agg R] w fun r w' => r = .returned (.agg (skipA R pc)) ∧ Grows w w' := by
  have hsz := hR.size
  go_enter Try.func11, Try.ntmps11
  iterate 8 (first | go_values | go_skip | go_guarded | go_step | go_upon | go_back)
  obtain ⟨W, hW⟩ : ∃ W, W = (w.alloc (Obj.cells R 32)).alloc (Obj.cells regs0.toArray 32) := ⟨_, rfl⟩
  rw [← hW]
  have hg : Grows w W := by rw [hW]; exact ((Grows.refl _).alloc _).alloc _
  obtain ⟨b1, hb1⟩ : ∃ b, b = w.heap.size := ⟨_, rfl⟩
  obtain ⟨b2, hb2⟩ : ∃ b, b = w.heap.size + 1 := ⟨_, rfl⟩
  rw [← hb2, ← hb1]
  have hR0 : Row W b1 R 32 := by
    rw [hW]; exact (Row.new_at _ _ _ hb1).grows ((Grows.refl _).alloc _)
  have hZ : Row W b2 regs0.toArray 32 := by
    rw [hW]; exact Row.new_at _ _ _ (by rw [hb2]; simp)
  clear hW
  have hn : b1 ≠ b2 := by omega
  have cR : W.cell? ⟨b1, 16, none⟩ = some (.int .u64 pc) := by rw [hR0.cell 16]; exact hpc
  have fR := hR0.frozen 16
  have lR := hR0.lt
  have hS : RegsOk (skipA R pc) := hR.set (by decide) _
  have hR1 := hR0.set 16 (.int .u64 (IntKind.u64.wrap (pc + 4)))
  have hZ1 := row_setOther hZ (p := ⟨b1, 16, none⟩) hn (.int .u64 (IntKind.u64.wrap (pc + 4)))
  have hF := row_setRow hZ1 (skipA R pc)
  have hGF := grows_setRow (hg.setCell (p := ⟨b1, 16, none⟩) (by simp; omega) (.int .u64 (IntKind.u64.wrap (pc + 4)))) (b := b2) (by omega) (skipA R pc)
  have HF := Lib.hid (And.intro hF hGF)
  have HI := Lib.hid (show (Try.prog.info? 32).map (·.size) = some (skipA R pc).size by rw [hS.size]; kernel_rfl)
  have HO := Lib.hid hS.one
  have HZ := Lib.hid (show regs0.toArray.size = (skipA R pc).size by rw [hS.size]; rfl)
  clear hF hGF hg hb1 hb2 hR0 hZ hpc hS hsz
  go_wp2_with (first | (refine wpList_load_row rfl 32 _ rfl b1 rfl 32 (skipA R pc) (0, 0) _ hR1 Try.underlying32 rfl HI.out ?_) | (refine wpList_store_row rfl 32 _ _ rfl b2 (skipA R pc) rfl rfl 32 _ hZ1 HI.out HZ.out HO.out ?_))
  exact bodyPost_ret (results_cell_row rfl _ _ b2 32 (skipA R pc) (0, 0) _ rfl HF.out.1 Try.underlying32 rfl HI.out) rfl ⟨rfl, HF.out.2⟩
theorem rskip_r {R : Array Value} (hR : RegsOk R) {pc : Int} (hpc : R[16]? = some (.int .u64 pc)) (w : World) :
    Calls Try.prog 24 #[.agg R] w fun r w' => r = .returned (.agg (skipA R pc)) ∧ Grows w w' := by
  have hsz := hR.size
  go_enter Try.func24, Try.ntmps24
  iterate 8 (first | go_values | go_skip | go_guarded | go_step | go_upon | go_back)
  obtain ⟨W, hW⟩ : ∃ W, W = (w.alloc (Obj.cells R 32)).alloc (Obj.cells regs0.toArray 32) := ⟨_, rfl⟩
  rw [← hW]
  have hg : Grows w W := by rw [hW]; exact ((Grows.refl _).alloc _).alloc _
  obtain ⟨b1, hb1⟩ : ∃ b, b = w.heap.size := ⟨_, rfl⟩
  obtain ⟨b2, hb2⟩ : ∃ b, b = w.heap.size + 1 := ⟨_, rfl⟩
  rw [← hb2, ← hb1]
  have hR0 : Row W b1 R 32 := by
    rw [hW]; exact (Row.new_at _ _ _ hb1).grows ((Grows.refl _).alloc _)
  have hZ : Row W b2 regs0.toArray 32 := by
    rw [hW]; exact Row.new_at _ _ _ (by rw [hb2]; simp)
  clear hW
  have hn : b1 ≠ b2 := by omega
  have cR : W.cell? ⟨b1, 16, none⟩ = some (.int .u64 pc) := by rw [hR0.cell 16]; exact hpc
  have fR := hR0.frozen 16
  have lR := hR0.lt
  have hS : RegsOk (skipA R pc) := hR.set (by decide) _
  have hR1 := hR0.set 16 (.int .u64 (IntKind.u64.wrap (pc + 4)))
  have hZ1 := row_setOther hZ (p := ⟨b1, 16, none⟩) hn (.int .u64 (IntKind.u64.wrap (pc + 4)))
  have hF := row_setRow hZ1 (skipA R pc)
  have hGF := grows_setRow (hg.setCell (p := ⟨b1, 16, none⟩) (by simp; omega) (.int .u64 (IntKind.u64.wrap (pc + 4)))) (b := b2) (by omega) (skipA R pc)
  have HF := Lib.hid (And.intro hF hGF)
  have HI := Lib.hid (show (Try.prog.info? 32).map (·.size) = some (skipA R pc).size by rw [hS.size]; kernel_rfl)
  have HO := Lib.hid hS.one
  have HZ := Lib.hid (show regs0.toArray.size = (skipA R pc).size by rw [hS.size]; rfl)
  clear hF hGF hg hb1 hb2 hR0 hZ hpc hS hsz
  go_wp2_with (first | (refine wpList_load_row rfl 32 _ rfl b1 rfl 32 (skipA R pc) (0, 0) _ hR1 Try.underlying32 rfl HI.out ?_) | (refine wpList_store_row rfl 32 _ _ rfl b2 (skipA R pc) rfl rfl 32 _ hZ1 HI.out HZ.out HO.out ?_))
  exact bodyPost_ret (results_cell_row rfl _ _ b2 32 (skipA R pc) (0, 0) _ rfl HF.out.1 Try.underlying32 rfl HI.out) rfl ⟨rfl, HF.out.2⟩
def answA (R : Array Value) (pc e v : Int) : Array Value := ((skipA R pc).setIfInBounds 10 (.int .u64 (IntKind.u64.wrap e))).setIfInBounds 11 (.int .u64 v)
theorem answA_ok {R : Array Value} (hR : RegsOk R) (pc e v : Int) : RegsOk (answA R pc e v) := ((RegsOk.set hR (i := 16) (by decide) _).set (i := 10) (by decide) _).set (i := 11) (by decide) v
theorem set_set (c : Array Value) (i : Nat) (x y : Value) : (c.setIfInBounds i x).setIfInBounds i y = c.setIfInBounds i y := by simp
set_option maxHeartbeats 2000000 in
theorem answer_r {R : Array Value} (hR : RegsOk R) {pc : Int} (hpc : R[16]? = some (.int .u64 pc)) (e v : Int) (w : World) :
    Calls Try.prog 13 #[.agg R, .int .i64 e, .int .u64 v] w fun r w' => r = .returned (.agg (answA R pc e (if e = 0 then v else 0))) ∧ Grows w w' := by
  by_cases he : e = 0
  · rw [if_pos he]
    have he' : (e != 0) = false := by simp [he]
    clear he
    have hS : RegsOk (skipA R pc) := hR.set (by decide) _
    have hA : RegsOk (answA R pc e v) := answA_ok hR _ _ _
    go_enter Try.func13, Try.ntmps13
    iterate 8 (first | go_values | go_skip | go_guarded | go_step | go_upon | go_back)
    obtain ⟨W, hW⟩ : ∃ W, W = (w.alloc (Obj.cells R 32)).alloc (Obj.cells regs0.toArray 32) := ⟨_, rfl⟩
    rw [← hW]
    have hg : Grows w W := by rw [hW]; exact ((Grows.refl _).alloc _).alloc _
    obtain ⟨b1, hb1⟩ : ∃ b, b = w.heap.size := ⟨_, rfl⟩
    obtain ⟨b2, hb2⟩ : ∃ b, b = w.heap.size + 1 := ⟨_, rfl⟩
    rw [← hb2, ← hb1]
    have hR0 : Row W b1 R 32 := by
      rw [hW]; exact (Row.new_at _ _ _ hb1).grows ((Grows.refl _).alloc _)
    have hZ : Row W b2 regs0.toArray 32 := by
      rw [hW]; exact Row.new_at _ _ _ (by rw [hb2]; simp)
    clear hW
    have hn : b1 ≠ b2 := by omega
    have HB := Lib.hid (And.intro (show w.heap.size ≤ b1 by omega) (show w.heap.size ≤ b2 by omega))
    clear hb1 hb2
    have HI0 := Lib.hid (show (Try.prog.info? 32).map (·.size) = some R.size by rw [hR.size]; kernel_rfl)
    have HG := Lib.hid hg
    clear hg
    go_wp2_with (refine wpList_load_row rfl 32 _ rfl b1 rfl 32 R (0, 0) _ hR0 Try.underlying32 rfl HI0.out ?_)
    refine (skip_r hR hpc _).mono ?_
    rintro _ w1 ⟨rfl, g1, rfl⟩
    obtain ⟨W1, hW1⟩ : ∃ W1, W1 = W.grow g1 := ⟨_, rfl⟩
    have hR1 : Row W1 b1 R 32 := by rw [hW1]; exact hR0.grows (Grows.of _ _)
    have hZ1 : Row W1 b2 regs0.toArray 32 := by rw [hW1]; exact hZ.grows (Grows.of _ _)
    have HG1 := Lib.hid (show Grows w W1 by rw [hW1]; exact HG.out.grow _)
    rw [← hW1]
    clear hW1 hR0 hZ HG
    have hR2 : Row (W1.setRow b1 (skipA R pc)) b1 (skipA R pc) 32 := row_setRow hR1 _
    have hZ2 : Row (W1.setRow b1 (skipA R pc)) b2 regs0.toArray 32 := row_setRowOther hZ1 hn _
    have HG2 := Lib.hid (grows_setRow HG1.out (b := b1) HB.out.1 (skipA R pc))
    obtain ⟨x10, h10⟩ := hS.at (i := 10) (by decide)
    obtain ⟨x11, h11⟩ := hS.at (i := 11) (by decide)
    have c10 : (W1.setRow b1 (skipA R pc)).cell? ⟨b1, 10, none⟩ = some (.int .u64 x10) := by rw [hR2.cell]; exact h10
    have c11 : (W1.setRow b1 (skipA R pc)).cell? ⟨b1, 11, none⟩ = some (.int .u64 x11) := by rw [hR2.cell]; exact h11
    have f10 := hR2.frozen 10
    have f11 := hR2.frozen 11
    have hl := hR2.lt
    have hl1 := hR1.lt
    have HI1 := Lib.hid (show (Try.prog.info? 32).map (·.size) = some (skipA R pc).size by rw [hS.size]; kernel_rfl)
    have HI2 := Lib.hid (show (Try.prog.info? 32).map (·.size) = some (answA R pc e v).size by rw [hA.size]; kernel_rfl)
    have HS1 := Lib.hid (show R.size = (skipA R pc).size by rw [hS.size, hR.size])
    have HS2 := Lib.hid (show regs0.toArray.size = (answA R pc e v).size by rw [hA.size]; rfl)
    have HO1 := Lib.hid hS.one
    have HO2 := Lib.hid hA.one
    have hR4 : Row (((W1.setRow b1 (skipA R pc)).setCell ⟨b1, 10, none⟩ (.int .u64 (IntKind.u64.wrap e))).setCell ⟨b1, 11, none⟩ (.int .u64 v)) b1 (answA R pc e v) 32 := (hR2.set 10 _).set 11 _
    have hZ4 : Row (((W1.setRow b1 (skipA R pc)).setCell ⟨b1, 10, none⟩ (.int .u64 (IntKind.u64.wrap e))).setCell ⟨b1, 11, none⟩ (.int .u64 v)) b2 regs0.toArray 32 := row_setOther (row_setOther hZ2 (p := ⟨b1, 10, none⟩) hn _) (p := ⟨b1, 11, none⟩) hn _
    have hG4 := (HG2.out.setCell (p := ⟨b1, 10, none⟩) HB.out.1 (.int .u64 (IntKind.u64.wrap e))).setCell (p := ⟨b1, 11, none⟩) HB.out.1 (.int .u64 v)
    have hF := row_setRow hZ4 (answA R pc e v)
    unfold Row at hR4 hZ4 hR1
    have HGF := Lib.hid (grows_setRow hG4 (b := b2) HB.out.2 (answA R pc e v))
    have HF := Lib.hid hF
    clear hF hG4 h10 h11 hZ2 hR2 hpc
    go_wp2_with (first | (refine wpList_store_row (by rfl) 32 _ _ (by rfl) b1 (skipA R pc) (by rfl) (by rfl) 32 _ (by exact hR1) HI1.out HS1.out HO1.out ?_) | (refine wpList_load_row (by rfl) 32 _ (by rfl) b1 (by rfl) 32 (answA R pc e v) (0, 0) _ (by exact hR4) Try.underlying32 rfl HI2.out ?_) | (refine wpList_store_row (by rfl) 32 _ _ (by rfl) b2 (answA R pc e v) (by rfl) (by rfl) 32 _ (by exact hZ4) HI2.out HS2.out HO2.out ?_))
    exact bodyPost_ret (results_cell_row rfl _ _ b2 32 (answA R pc e v) (0, 0) _ rfl HF.out Try.underlying32 rfl HI2.out) rfl ⟨rfl, HGF.out⟩
  · rw [if_neg he]
    have he' : (e != 0) = true := by simp [he]
    clear he
    have hS : RegsOk (skipA R pc) := hR.set (by decide) _
    have hA : RegsOk (answA R pc e 0) := answA_ok hR _ _ _
    go_enter Try.func13, Try.ntmps13
    iterate 8 (first | go_values | go_skip | go_guarded | go_step | go_upon | go_back)
    obtain ⟨W, hW⟩ : ∃ W, W = (w.alloc (Obj.cells R 32)).alloc (Obj.cells regs0.toArray 32) := ⟨_, rfl⟩
    rw [← hW]
    have hg : Grows w W := by rw [hW]; exact ((Grows.refl _).alloc _).alloc _
    obtain ⟨b1, hb1⟩ : ∃ b, b = w.heap.size := ⟨_, rfl⟩
    obtain ⟨b2, hb2⟩ : ∃ b, b = w.heap.size + 1 := ⟨_, rfl⟩
    rw [← hb2, ← hb1]
    have hR0 : Row W b1 R 32 := by
      rw [hW]; exact (Row.new_at _ _ _ hb1).grows ((Grows.refl _).alloc _)
    have hZ : Row W b2 regs0.toArray 32 := by
      rw [hW]; exact Row.new_at _ _ _ (by rw [hb2]; simp)
    clear hW
    have hn : b1 ≠ b2 := by omega
    have HB := Lib.hid (And.intro (show w.heap.size ≤ b1 by omega) (show w.heap.size ≤ b2 by omega))
    clear hb1 hb2
    have HI0 := Lib.hid (show (Try.prog.info? 32).map (·.size) = some R.size by rw [hR.size]; kernel_rfl)
    have HG := Lib.hid hg
    clear hg
    go_wp2_with (refine wpList_load_row rfl 32 _ rfl b1 rfl 32 R (0, 0) _ hR0 Try.underlying32 rfl HI0.out ?_)
    refine (skip_r hR hpc _).mono ?_
    rintro _ w1 ⟨rfl, g1, rfl⟩
    obtain ⟨W1, hW1⟩ : ∃ W1, W1 = W.grow g1 := ⟨_, rfl⟩
    have hR1 : Row W1 b1 R 32 := by rw [hW1]; exact hR0.grows (Grows.of _ _)
    have hZ1 : Row W1 b2 regs0.toArray 32 := by rw [hW1]; exact hZ.grows (Grows.of _ _)
    have HG1 := Lib.hid (show Grows w W1 by rw [hW1]; exact HG.out.grow _)
    rw [← hW1]
    clear hW1 hR0 hZ HG
    have hR2 : Row (W1.setRow b1 (skipA R pc)) b1 (skipA R pc) 32 := row_setRow hR1 _
    have hZ2 : Row (W1.setRow b1 (skipA R pc)) b2 regs0.toArray 32 := row_setRowOther hZ1 hn _
    have HG2 := Lib.hid (grows_setRow HG1.out (b := b1) HB.out.1 (skipA R pc))
    obtain ⟨x10, h10⟩ := hS.at (i := 10) (by decide)
    obtain ⟨x11, h11⟩ := hS.at (i := 11) (by decide)
    have c10 : (W1.setRow b1 (skipA R pc)).cell? ⟨b1, 10, none⟩ = some (.int .u64 x10) := by rw [hR2.cell]; exact h10
    have c11 : (W1.setRow b1 (skipA R pc)).cell? ⟨b1, 11, none⟩ = some (.int .u64 x11) := by rw [hR2.cell]; exact h11
    have f10 := hR2.frozen 10
    have f11 := hR2.frozen 11
    have hl := hR2.lt
    have hl1 := hR1.lt
    have HI1 := Lib.hid (show (Try.prog.info? 32).map (·.size) = some (skipA R pc).size by rw [hS.size]; kernel_rfl)
    have HI2 := Lib.hid (show (Try.prog.info? 32).map (·.size) = some (answA R pc e 0).size by rw [hA.size]; kernel_rfl)
    have HS1 := Lib.hid (show R.size = (skipA R pc).size by rw [hS.size, hR.size])
    have HS2 := Lib.hid (show regs0.toArray.size = (answA R pc e 0).size by rw [hA.size]; rfl)
    have HO1 := Lib.hid hS.one
    have HO2 := Lib.hid hA.one
    have hR4 : Row ((((W1.setRow b1 (skipA R pc)).setCell ⟨b1, 10, none⟩ (.int .u64 (IntKind.u64.wrap e))).setCell ⟨b1, 11, none⟩ (.int .u64 v)).setCell ⟨b1, 11, none⟩ (.int .u64 0)) b1 (answA R pc e 0) 32 := by
      have := ((hR2.set 10 (.int .u64 (IntKind.u64.wrap e))).set 11 (.int .u64 v)).set 11 (.int .u64 0)
      rw [set_set] at this
      exact this
    have hZ4 : Row ((((W1.setRow b1 (skipA R pc)).setCell ⟨b1, 10, none⟩ (.int .u64 (IntKind.u64.wrap e))).setCell ⟨b1, 11, none⟩ (.int .u64 v)).setCell ⟨b1, 11, none⟩ (.int .u64 0)) b2 regs0.toArray 32 := row_setOther (row_setOther (row_setOther hZ2 (p := ⟨b1, 10, none⟩) hn _) (p := ⟨b1, 11, none⟩) hn _) (p := ⟨b1, 11, none⟩) hn _
    have hG4 := ((HG2.out.setCell (p := ⟨b1, 10, none⟩) HB.out.1 (.int .u64 (IntKind.u64.wrap e))).setCell (p := ⟨b1, 11, none⟩) HB.out.1 (.int .u64 v)).setCell (p := ⟨b1, 11, none⟩) HB.out.1 (.int .u64 0)
    have hF := row_setRow hZ4 (answA R pc e 0)
    unfold Row at hR4 hZ4 hR1
    have HGF := Lib.hid (grows_setRow hG4 (b := b2) HB.out.2 (answA R pc e 0))
    have HF := Lib.hid hF
    clear hF hG4 h10 h11 hZ2 hR2 hpc
    go_wp2_with (first | (refine wpList_store_row (by rfl) 32 _ _ (by rfl) b1 (skipA R pc) (by rfl) (by rfl) 32 _ (by exact hR1) HI1.out HS1.out HO1.out ?_) | (refine wpList_load_row (by rfl) 32 _ (by rfl) b1 (by rfl) 32 (answA R pc e 0) (0, 0) _ (by exact hR4) Try.underlying32 rfl HI2.out ?_) | (refine wpList_store_row (by rfl) 32 _ _ (by rfl) b2 (answA R pc e 0) (by rfl) (by rfl) 32 _ (by exact hZ4) HI2.out HS2.out HO2.out ?_))
    exact bodyPost_ret (results_cell_row rfl _ _ b2 32 (answA R pc e 0) (0, 0) _ rfl HF.out Try.underlying32 rfl HI2.out) rfl ⟨rfl, HGF.out⟩
set_option maxHeartbeats 2000000 in
theorem ranswer_r {R : Array Value} (hR : RegsOk R) {pc : Int} (hpc : R[16]? = some (.int .u64 pc)) (e v : Int) (w : World) :
    Calls Try.prog 14 #[.agg R, .int .i64 e, .int .u64 v] w fun r w' => r = .returned (.agg (answA R pc e (if e = 0 then v else 0))) ∧ Grows w w' := by
  by_cases he : e = 0
  · rw [if_pos he]
    have he' : (e == 0) = true := by simp [he]
    clear he
    have hS : RegsOk (skipA R pc) := hR.set (by decide) _
    have hA : RegsOk (answA R pc e v) := answA_ok hR _ _ _
    go_enter Try.func14, Try.ntmps14
    iterate 8 (first | go_values | go_skip | go_guarded | go_step | go_upon | go_back)
    obtain ⟨W, hW⟩ : ∃ W, W = (w.alloc (Obj.cells R 32)).alloc (Obj.cells regs0.toArray 32) := ⟨_, rfl⟩
    rw [← hW]
    have hg : Grows w W := by rw [hW]; exact ((Grows.refl _).alloc _).alloc _
    obtain ⟨b1, hb1⟩ : ∃ b, b = w.heap.size := ⟨_, rfl⟩
    obtain ⟨b2, hb2⟩ : ∃ b, b = w.heap.size + 1 := ⟨_, rfl⟩
    rw [← hb2, ← hb1]
    have hR0 : Row W b1 R 32 := by
      rw [hW]; exact (Row.new_at _ _ _ hb1).grows ((Grows.refl _).alloc _)
    have hZ : Row W b2 regs0.toArray 32 := by
      rw [hW]; exact Row.new_at _ _ _ (by rw [hb2]; simp)
    clear hW
    have hn : b1 ≠ b2 := by omega
    have HB := Lib.hid (And.intro (show w.heap.size ≤ b1 by omega) (show w.heap.size ≤ b2 by omega))
    clear hb1 hb2
    have HI0 := Lib.hid (show (Try.prog.info? 32).map (·.size) = some R.size by rw [hR.size]; kernel_rfl)
    have HG := Lib.hid hg
    clear hg
    go_wp2_with (refine wpList_load_row rfl 32 _ rfl b1 rfl 32 R (0, 0) _ hR0 Try.underlying32 rfl HI0.out ?_)
    refine (rskip_r hR hpc _).mono ?_
    rintro _ w1 ⟨rfl, g1, rfl⟩
    obtain ⟨W1, hW1⟩ : ∃ W1, W1 = W.grow g1 := ⟨_, rfl⟩
    have hR1 : Row W1 b1 R 32 := by rw [hW1]; exact hR0.grows (Grows.of _ _)
    have hZ1 : Row W1 b2 regs0.toArray 32 := by rw [hW1]; exact hZ.grows (Grows.of _ _)
    have HG1 := Lib.hid (show Grows w W1 by rw [hW1]; exact HG.out.grow _)
    rw [← hW1]
    clear hW1 hR0 hZ HG
    have hR2 : Row (W1.setRow b1 (skipA R pc)) b1 (skipA R pc) 32 := row_setRow hR1 _
    have hZ2 : Row (W1.setRow b1 (skipA R pc)) b2 regs0.toArray 32 := row_setRowOther hZ1 hn _
    have HG2 := Lib.hid (grows_setRow HG1.out (b := b1) HB.out.1 (skipA R pc))
    obtain ⟨x10, h10⟩ := hS.at (i := 10) (by decide)
    obtain ⟨x11, h11⟩ := hS.at (i := 11) (by decide)
    have c10 : (W1.setRow b1 (skipA R pc)).cell? ⟨b1, 10, none⟩ = some (.int .u64 x10) := by rw [hR2.cell]; exact h10
    have c11 : (W1.setRow b1 (skipA R pc)).cell? ⟨b1, 11, none⟩ = some (.int .u64 x11) := by rw [hR2.cell]; exact h11
    have f10 := hR2.frozen 10
    have f11 := hR2.frozen 11
    have hl := hR2.lt
    have hl1 := hR1.lt
    have HI1 := Lib.hid (show (Try.prog.info? 32).map (·.size) = some (skipA R pc).size by rw [hS.size]; kernel_rfl)
    have HI2 := Lib.hid (show (Try.prog.info? 32).map (·.size) = some (answA R pc e v).size by rw [hA.size]; kernel_rfl)
    have HS1 := Lib.hid (show R.size = (skipA R pc).size by rw [hS.size, hR.size])
    have HS2 := Lib.hid (show regs0.toArray.size = (answA R pc e v).size by rw [hA.size]; rfl)
    have HO1 := Lib.hid hS.one
    have HO2 := Lib.hid hA.one
    have hR4 : Row ((((W1.setRow b1 (skipA R pc)).setCell ⟨b1, 10, none⟩ (.int .u64 (IntKind.u64.wrap e))).setCell ⟨b1, 11, none⟩ (.int .u64 0)).setCell ⟨b1, 11, none⟩ (.int .u64 v)) b1 (answA R pc e v) 32 := by
      have := ((hR2.set 10 (.int .u64 (IntKind.u64.wrap e))).set 11 (.int .u64 0)).set 11 (.int .u64 v)
      rw [set_set] at this
      exact this
    have hZ4 : Row ((((W1.setRow b1 (skipA R pc)).setCell ⟨b1, 10, none⟩ (.int .u64 (IntKind.u64.wrap e))).setCell ⟨b1, 11, none⟩ (.int .u64 0)).setCell ⟨b1, 11, none⟩ (.int .u64 v)) b2 regs0.toArray 32 := row_setOther (row_setOther (row_setOther hZ2 (p := ⟨b1, 10, none⟩) hn _) (p := ⟨b1, 11, none⟩) hn _) (p := ⟨b1, 11, none⟩) hn _
    have hG4 := ((HG2.out.setCell (p := ⟨b1, 10, none⟩) HB.out.1 (.int .u64 (IntKind.u64.wrap e))).setCell (p := ⟨b1, 11, none⟩) HB.out.1 (.int .u64 0)).setCell (p := ⟨b1, 11, none⟩) HB.out.1 (.int .u64 v)
    have hF := row_setRow hZ4 (answA R pc e v)
    unfold Row at hR4 hZ4 hR1
    have HGF := Lib.hid (grows_setRow hG4 (b := b2) HB.out.2 (answA R pc e v))
    have HF := Lib.hid hF
    clear hF hG4 h10 h11 hZ2 hR2 hpc
    go_wp2_with (first | (refine wpList_store_row (by rfl) 32 _ _ (by rfl) b1 (skipA R pc) (by rfl) (by rfl) 32 _ (by exact hR1) HI1.out HS1.out HO1.out ?_) | (refine wpList_load_row (by rfl) 32 _ (by rfl) b1 (by rfl) 32 (answA R pc e v) (0, 0) _ (by exact hR4) Try.underlying32 rfl HI2.out ?_) | (refine wpList_store_row (by rfl) 32 _ _ (by rfl) b2 (answA R pc e v) (by rfl) (by rfl) 32 _ (by exact hZ4) HI2.out HS2.out HO2.out ?_))
    exact bodyPost_ret (results_cell_row rfl _ _ b2 32 (answA R pc e v) (0, 0) _ rfl HF.out Try.underlying32 rfl HI2.out) rfl ⟨rfl, HGF.out⟩
  · rw [if_neg he]
    have he' : (e == 0) = false := by simp [he]
    clear he
    have hS : RegsOk (skipA R pc) := hR.set (by decide) _
    have hA : RegsOk (answA R pc e 0) := answA_ok hR _ _ _
    go_enter Try.func14, Try.ntmps14
    iterate 8 (first | go_values | go_skip | go_guarded | go_step | go_upon | go_back)
    obtain ⟨W, hW⟩ : ∃ W, W = (w.alloc (Obj.cells R 32)).alloc (Obj.cells regs0.toArray 32) := ⟨_, rfl⟩
    rw [← hW]
    have hg : Grows w W := by rw [hW]; exact ((Grows.refl _).alloc _).alloc _
    obtain ⟨b1, hb1⟩ : ∃ b, b = w.heap.size := ⟨_, rfl⟩
    obtain ⟨b2, hb2⟩ : ∃ b, b = w.heap.size + 1 := ⟨_, rfl⟩
    rw [← hb2, ← hb1]
    have hR0 : Row W b1 R 32 := by
      rw [hW]; exact (Row.new_at _ _ _ hb1).grows ((Grows.refl _).alloc _)
    have hZ : Row W b2 regs0.toArray 32 := by
      rw [hW]; exact Row.new_at _ _ _ (by rw [hb2]; simp)
    clear hW
    have hn : b1 ≠ b2 := by omega
    have HB := Lib.hid (And.intro (show w.heap.size ≤ b1 by omega) (show w.heap.size ≤ b2 by omega))
    clear hb1 hb2
    have HI0 := Lib.hid (show (Try.prog.info? 32).map (·.size) = some R.size by rw [hR.size]; kernel_rfl)
    have HG := Lib.hid hg
    clear hg
    go_wp2_with (refine wpList_load_row rfl 32 _ rfl b1 rfl 32 R (0, 0) _ hR0 Try.underlying32 rfl HI0.out ?_)
    refine (rskip_r hR hpc _).mono ?_
    rintro _ w1 ⟨rfl, g1, rfl⟩
    obtain ⟨W1, hW1⟩ : ∃ W1, W1 = W.grow g1 := ⟨_, rfl⟩
    have hR1 : Row W1 b1 R 32 := by rw [hW1]; exact hR0.grows (Grows.of _ _)
    have hZ1 : Row W1 b2 regs0.toArray 32 := by rw [hW1]; exact hZ.grows (Grows.of _ _)
    have HG1 := Lib.hid (show Grows w W1 by rw [hW1]; exact HG.out.grow _)
    rw [← hW1]
    clear hW1 hR0 hZ HG
    have hR2 : Row (W1.setRow b1 (skipA R pc)) b1 (skipA R pc) 32 := row_setRow hR1 _
    have hZ2 : Row (W1.setRow b1 (skipA R pc)) b2 regs0.toArray 32 := row_setRowOther hZ1 hn _
    have HG2 := Lib.hid (grows_setRow HG1.out (b := b1) HB.out.1 (skipA R pc))
    obtain ⟨x10, h10⟩ := hS.at (i := 10) (by decide)
    obtain ⟨x11, h11⟩ := hS.at (i := 11) (by decide)
    have c10 : (W1.setRow b1 (skipA R pc)).cell? ⟨b1, 10, none⟩ = some (.int .u64 x10) := by rw [hR2.cell]; exact h10
    have c11 : (W1.setRow b1 (skipA R pc)).cell? ⟨b1, 11, none⟩ = some (.int .u64 x11) := by rw [hR2.cell]; exact h11
    have f10 := hR2.frozen 10
    have f11 := hR2.frozen 11
    have hl := hR2.lt
    have hl1 := hR1.lt
    have HI1 := Lib.hid (show (Try.prog.info? 32).map (·.size) = some (skipA R pc).size by rw [hS.size]; kernel_rfl)
    have HI2 := Lib.hid (show (Try.prog.info? 32).map (·.size) = some (answA R pc e 0).size by rw [hA.size]; kernel_rfl)
    have HS1 := Lib.hid (show R.size = (skipA R pc).size by rw [hS.size, hR.size])
    have HS2 := Lib.hid (show regs0.toArray.size = (answA R pc e 0).size by rw [hA.size]; rfl)
    have HO1 := Lib.hid hS.one
    have HO2 := Lib.hid hA.one
    have hR4 : Row (((W1.setRow b1 (skipA R pc)).setCell ⟨b1, 10, none⟩ (.int .u64 (IntKind.u64.wrap e))).setCell ⟨b1, 11, none⟩ (.int .u64 0)) b1 (answA R pc e 0) 32 := (hR2.set 10 _).set 11 _
    have hZ4 : Row (((W1.setRow b1 (skipA R pc)).setCell ⟨b1, 10, none⟩ (.int .u64 (IntKind.u64.wrap e))).setCell ⟨b1, 11, none⟩ (.int .u64 0)) b2 regs0.toArray 32 := row_setOther (row_setOther hZ2 (p := ⟨b1, 10, none⟩) hn _) (p := ⟨b1, 11, none⟩) hn _
    have hG4 := (HG2.out.setCell (p := ⟨b1, 10, none⟩) HB.out.1 (.int .u64 (IntKind.u64.wrap e))).setCell (p := ⟨b1, 11, none⟩) HB.out.1 (.int .u64 0)
    have hF := row_setRow hZ4 (answA R pc e 0)
    unfold Row at hR4 hZ4 hR1
    have HGF := Lib.hid (grows_setRow hG4 (b := b2) HB.out.2 (answA R pc e 0))
    have HF := Lib.hid hF
    clear hF hG4 h10 h11 hZ2 hR2 hpc
    go_wp2_with (first | (refine wpList_store_row (by rfl) 32 _ _ (by rfl) b1 (skipA R pc) (by rfl) (by rfl) 32 _ (by exact hR1) HI1.out HS1.out HO1.out ?_) | (refine wpList_load_row (by rfl) 32 _ (by rfl) b1 (by rfl) 32 (answA R pc e 0) (0, 0) _ (by exact hR4) Try.underlying32 rfl HI2.out ?_) | (refine wpList_store_row (by rfl) 32 _ _ (by rfl) b2 (answA R pc e 0) (by rfl) (by rfl) 32 _ (by exact hZ4) HI2.out HS2.out HO2.out ?_))
    exact bodyPost_ret (results_cell_row rfl _ _ b2 32 (answA R pc e 0) (0, 0) _ rfl HF.out Try.underlying32 rfl HI2.out) rfl ⟨rfl, HGF.out⟩
theorem rfault_any (c v g : Int) (w : World) :
    Calls Try.prog 12 #[.agg #[.int .i64 c, .int .u64 v, .int .u64 g]] w fun r w' => r = .returned (.agg #[.int .i64 (faultC c), .int .u64 v, .int .u64 0]) ∧ Grows w w' := by
  by_cases h1 : c = 20
  · subst h1
    go_enter Try.func12, Try.ntmps12
    go_wp2_with fail
    exact bodyPost_ret (v := .agg #[.int .i64 1, .int .u64 v, .int .u64 0]) (by simp [results, Try.results12, go_sem]) rfl ⟨by first | rfl | (simp [faultC]; done), ((Grows.refl _).alloc _).alloc _⟩
  by_cases h2 : c = 21
  · subst h2
    go_enter Try.func12, Try.ntmps12
    go_wp2_with fail
    exact bodyPost_ret (v := .agg #[.int .i64 5, .int .u64 v, .int .u64 0]) (by simp [results, Try.results12, go_sem]) rfl ⟨by first | rfl | (simp [faultC]; done), ((Grows.refl _).alloc _).alloc _⟩
  by_cases h3 : c = 23
  · subst h3
    go_enter Try.func12, Try.ntmps12
    go_wp2_with fail
    exact bodyPost_ret (v := .agg #[.int .i64 7, .int .u64 v, .int .u64 0]) (by simp [results, Try.results12, go_sem]) rfl ⟨by first | rfl | (simp [faultC]; done), ((Grows.refl _).alloc _).alloc _⟩
  · have hf : faultC c = c := by simp [faultC, h1, h2, h3]
    rw [hf]
    clear hf
    go_enter Try.func12, Try.ntmps12
    go_wp2_with fail
    exact bodyPost_ret (v := .agg #[.int .i64 c, .int .u64 v, .int .u64 0]) (by simp [results, Try.results12, go_sem]) rfl ⟨by first | rfl | (simp [faultC]; done), ((Grows.refl _).alloc _).alloc _⟩
theorem call_r {R : Array Value} (hR : RegsOk R) {x10 x11 x12 x13 x14 : Int} (h10 : R[10]? = some (.int .u64 x10)) (h11 : R[11]? = some (.int .u64 x11)) (h12 : R[12]? = some (.int .u64 x12)) (h13 : R[13]? = some (.int .u64 x13)) (h14 : R[14]? = some (.int .u64 x14)) (w : World) :
    Calls Try.prog 10 #[.agg R] w fun r w' => r = .returned (.tuple #[.int .u64 x10, .agg #[.int .u64 x11, .int .u64 x12, .int .u64 x13, .int .u64 x14]]) ∧ Grows w w' := by
  obtain ⟨y0, y1, y2, y3, y4, y5, y6, y7, y8, y9, y10, y11, y12, y13, y14, y15, pc, m, rfl⟩ := hR
  obtain rfl : y10 = x10 := by simpa using h10
  obtain rfl : y11 = x11 := by simpa using h11
  obtain rfl : y12 = x12 := by simpa using h12
  obtain rfl : y13 = x13 := by simpa using h13
  obtain rfl : y14 = x14 := by simpa using h14
  exact call_any _ _ _ _ _ _ _ _ _ _ _ _ _ _ _ _ _ _ _
end Go.Proofs.Ytjbgamifkgeodaa
