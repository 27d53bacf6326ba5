/- What Skip, Fault and Answer of the package emulate, and of its reference, compute, of registers that are any row of 18 numbers. -/
import Derived.Test.YtjbgamifkgeodaaDoorEmu
import Derived.BigRegion
import Derived.DeepKeys
namespace Go
theorem quiet_load_row {P : Program} {C : World → Prop} {o : Oper} {a : Act} {K : Act → Prop} (ty : TypeId) (x : Operand) (ho : o.op = .load ty x) (g : Nat) (hx : a.eval x = .pointer (some ⟨g, 0, none⟩)) (t : TypeId) (cs : Array Value) (d : TypeDesc)
    (hrow : ∀ w, C w → Row w g cs t) (hu : P.underlying ty = some d) (hd : (match d with | .struct _ | .array _ _ => true | _ => false) = true) (hi : (P.info? ty).map (·.size) = some cs.size) (hk : K (a.put o.dst (.agg cs))) : o.quiet P a C K := by
  refine ⟨.agg cs, fun w hw => ?_, hk⟩
  unfold Oper.quietAt execOp
  simp only [ho, hx, Instr.loadAt, Instr.sureAddr, Sem.run_bind, Sem.run_pure, Result.andThen_ok, run_loadVar_row w g t ty cs (0, 0) d (hrow w hw) hu hd hi]
  exact ⟨rfl, rfl⟩
theorem Row.set {w : World} {b : Nat} {c : Array Value} {t : TypeId} (h : Row w b c t) (i : Nat) (v : Value) : Row (w.setCell ⟨b, i, none⟩ v) b (c.setIfInBounds i v) t := by
  unfold Row at *
  show (w.heap.modify b _)[b]? = _
  rw [Array.getElem?_modify, if_pos rfl, h]
  rfl
end Go
namespace Go.Proofs.YtjbgamifkgeodaaDoor
open Go Go.RowKit
set_option linter.unusedSimpArgs false
set_option linter.unusedVariables false
def RegsOk (R : Array Value) : Prop := ∃ x0 x1 x2 x3 x4 x5 x6 x7 x8 x9 x10 x11 x12 x13 x14 x15 pc m : Int, R = #[.int .u64 x0, .int .u64 x1, .int .u64 x2, .int .u64 x3, .int .u64 x4, .int .u64 x5, .int .u64 x6, .int .u64 x7, .int .u64 x8, .int .u64 x9, .int .u64 x10, .int .u64 x11, .int .u64 x12, .int .u64 x13, .int .u64 x14, .int .u64 x15, .int .u64 pc, .int .i64 m]
theorem RegsOk.size {R : Array Value} (h : RegsOk R) : R.size = 18 := by
  obtain ⟨x0, x1, x2, x3, x4, x5, x6, x7, x8, x9, x10, x11, x12, x13, x14, x15, pc, m, rfl⟩ := h; rfl
theorem RegsOk.one {R : Array Value} (h : RegsOk R) : R.all (·.oneCell') = true := by
  obtain ⟨x0, x1, x2, x3, x4, x5, x6, x7, x8, x9, x10, x11, x12, x13, x14, x15, pc, m, rfl⟩ := h; simp [Value.oneCell']
theorem RegsOk.at {R : Array Value} (h : RegsOk R) {i : Nat} (hi : i < 17) : ∃ x, R[i]? = some (.int .u64 x) := by
  obtain ⟨x0, x1, x2, x3, x4, x5, x6, x7, x8, x9, x10, x11, x12, x13, x14, x15, pc, m, rfl⟩ := h
  have : i = 0 ∨ i = 1 ∨ i = 2 ∨ i = 3 ∨ i = 4 ∨ i = 5 ∨ i = 6 ∨ i = 7 ∨ i = 8 ∨ i = 9 ∨ i = 10 ∨ i = 11 ∨ i = 12 ∨ i = 13 ∨ i = 14 ∨ i = 15 ∨ i = 16 := by omega
  rcases this with rfl | rfl | rfl | rfl | rfl | rfl | rfl | rfl | rfl | rfl | rfl | rfl | rfl | rfl | rfl | rfl | rfl
  all_goals exact ⟨_, rfl⟩
theorem RegsOk.set {R : Array Value} (h : RegsOk R) {i : Nat} (hi : i < 17) (x : Int) : RegsOk (R.setIfInBounds i (.int .u64 x)) := by
  obtain ⟨x0, x1, x2, x3, x4, x5, x6, x7, x8, x9, x10, x11, x12, x13, x14, x15, pc, m, rfl⟩ := h
  have : i = 0 ∨ i = 1 ∨ i = 2 ∨ i = 3 ∨ i = 4 ∨ i = 5 ∨ i = 6 ∨ i = 7 ∨ i = 8 ∨ i = 9 ∨ i = 10 ∨ i = 11 ∨ i = 12 ∨ i = 13 ∨ i = 14 ∨ i = 15 ∨ i = 16 := by omega
  rcases this with rfl | rfl | rfl | rfl | rfl | rfl | rfl | rfl | rfl | rfl | rfl | rfl | rfl | rfl | rfl | rfl | rfl
  all_goals exact ⟨_, _, _, _, _, _, _, _, _, _, _, _, _, _, _, _, _, _, rfl⟩
theorem refl_items {P : Program} (w : World) (d : Nat) (e : TypeId) (k : IntKind) (he : P.underlying e = some (.int k)) (xs : Array Value) : ∀ (is : List Nat), (∀ i ∈ is, ∃ x, (part e xs (i * 1)).run P w = .ok (.int k x) w) → (Op.eqItems (d + 1) e 1 xs xs is).run P w = .ok true w
  | [], _ => by simp [Op.eqItems]
  | i :: is, h => by
    obtain ⟨x, hx⟩ := h i (by simp)
    have ih := refl_items w d e k he xs is (fun j hj => h j (by simp [hj]))
    simp only [Op.eqItems, Sem.run_bind, hx, Result.andThen_ok, run_equalIn_int w d e k k x x he, beq_self_eq_true]
    simpa using ih
theorem eq16 (x0 x1 x2 x3 x4 x5 x6 x7 x8 x9 x10 x11 x12 x13 x14 x15 : Int) (w : World) : (Op.equalIn 9999 24 (.agg #[.int .u64 x0, .int .u64 x1, .int .u64 x2, .int .u64 x3, .int .u64 x4, .int .u64 x5, .int .u64 x6, .int .u64 x7, .int .u64 x8, .int .u64 x9, .int .u64 x10, .int .u64 x11, .int .u64 x12, .int .u64 x13, .int .u64 x14, .int .u64 x15]) (.agg #[.int .u64 x0, .int .u64 x1, .int .u64 x2, .int .u64 x3, .int .u64 x4, .int .u64 x5, .int .u64 x6, .int .u64 x7, .int .u64 x8, .int .u64 x9, .int .u64 x10, .int .u64 x11, .int .u64 x12, .int .u64 x13, .int .u64 x14, .int .u64 x15])).run Tryd.prog w = .ok true w := by
  obtain ⟨i, hi⟩ := info_of_underlying Tryd.underlying23
  rw [run_equalIn_array w 9998 _ _ Tryd.underlying24 hi]
  rw [show Tryd.prog.cellsOf 23 = 1 by kernel_rfl]
  refine refl_items w 9997 23 .u64 Tryd.underlying23 _ _ (fun i hi => ?_)
  have : i = 0 ∨ i = 1 ∨ i = 2 ∨ i = 3 ∨ i = 4 ∨ i = 5 ∨ i = 6 ∨ i = 7 ∨ i = 8 ∨ i = 9 ∨ i = 10 ∨ i = 11 ∨ i = 12 ∨ i = 13 ∨ i = 14 ∨ i = 15 := by simp at hi; omega
  rcases this with rfl | rfl | rfl | rfl | rfl | rfl | rfl | rfl | rfl | rfl | rfl | rfl | rfl | rfl | rfl | rfl
  all_goals exact ⟨_, by simp [go_sem]; rfl⟩
theorem neq_regs {R : Array Value} (h : RegsOk R) (w : World) : (binOp .neq 26 (.agg R) (.agg R)).run Tryd.prog w = .ok (.bool false) w := by
  obtain ⟨x0, x1, x2, x3, x4, x5, x6, x7, x8, x9, x10, x11, x12, x13, x14, x15, pc, m, rfl⟩ := h
  have := eq16 x0 x1 x2 x3 x4 x5 x6 x7 x8 x9 x10 x11 x12 x13 x14 x15
  simp [go_sem, this]
def skipA (R : Array Value) (pc : Int) : Array Value := R.setIfInBounds 16 (.int .u64 (IntKind.u64.wrap (pc + 4)))
theorem skip_r {R : Array Value} (hR : RegsOk R) {pc : Int} (hpc : R[16]? = some (.int .u64 pc)) (w : World) :
    Calls Tryd.prog 9 #[.agg R] w fun r w' => r = .returned (.agg (skipA R pc)) ∧ Grows w w' := by
  have hsz := hR.size
  go_enter Tryd.func9, Tryd.ntmps9
  iterate 8 (first | go_values | go_skip | go_guarded | go_step | go_upon | go_back)
  obtain ⟨W, hW⟩ : ∃ W, W = (w.alloc (Obj.cells R 26)).alloc (Obj.cells regs0.toArray 26) := ⟨_, rfl⟩
  rw [← hW]
  have hg : Grows w W := by rw [hW]; exact ((Grows.refl _).alloc _).alloc _
  obtain ⟨b1, hb1⟩ : ∃ b, b = w.heap.size := ⟨_, rfl⟩
  obtain ⟨b2, hb2⟩ : ∃ b, b = w.heap.size + 1 := ⟨_, rfl⟩
  rw [← hb2, ← hb1]
  have hR0 : Row W b1 R 26 := by
    rw [hW]; exact (Row.new_at _ _ _ hb1).grows ((Grows.refl _).alloc _)
  have hZ : Row W b2 regs0.toArray 26 := by
    rw [hW]; exact Row.new_at _ _ _ (by rw [hb2]; simp)
  clear hW
  have hn : b1 ≠ b2 := by omega
  have cR : W.cell? ⟨b1, 16, none⟩ = some (.int .u64 pc) := by rw [hR0.cell 16]; exact hpc
  have fR := hR0.frozen 16
  have lR := hR0.lt
  have hS : RegsOk (skipA R pc) := hR.set (by decide) _
  have hR1 := hR0.set 16 (.int .u64 (IntKind.u64.wrap (pc + 4)))
  have hZ1 := row_setOther hZ (p := ⟨b1, 16, none⟩) hn (.int .u64 (IntKind.u64.wrap (pc + 4)))
  have hF := row_setRow hZ1 (skipA R pc)
  have hGF := grows_setRow (hg.setCell (p := ⟨b1, 16, none⟩) (by simp; omega) (.int .u64 (IntKind.u64.wrap (pc + 4)))) (b := b2) (by omega) (skipA R pc)
  have HF := Lib.hid (And.intro hF hGF)
  have HI := Lib.hid (show (Tryd.prog.info? 26).map (·.size) = some (skipA R pc).size by rw [hS.size]; kernel_rfl)
  have HO := Lib.hid hS.one
  have HZ := Lib.hid (show regs0.toArray.size = (skipA R pc).size by rw [hS.size]; rfl)
  clear hF hGF hg hb1 hb2 hR0 hZ hpc hS hsz
  go_wp2_with (first | (refine wpList_load_row rfl 26 _ rfl b1 rfl 26 (skipA R pc) (0, 0) _ hR1 Tryd.underlying26 rfl HI.out ?_) | (refine wpList_store_row rfl 26 _ _ rfl b2 (skipA R pc) rfl rfl 26 _ hZ1 HI.out HZ.out HO.out ?_))
  exact bodyPost_ret (results_cell_row rfl _ _ b2 26 (skipA R pc) (0, 0) _ rfl HF.out.1 Tryd.underlying26 rfl HI.out) rfl ⟨rfl, HF.out.2⟩
theorem rskip_r {R : Array Value} (hR : RegsOk R) {pc : Int} (hpc : R[16]? = some (.int .u64 pc)) (w : World) :
    Calls Tryd.prog 10 #[.agg R] w fun r w' => r = .returned (.agg (skipA R pc)) ∧ Grows w w' := by
  have hsz := hR.size
  go_enter Tryd.func10, Tryd.ntmps10
  iterate 8 (first | go_values | go_skip | go_guarded | go_step | go_upon | go_back)
  obtain ⟨W, hW⟩ : ∃ W, W = (w.alloc (Obj.cells R 26)).alloc (Obj.cells regs0.toArray 26) := ⟨_, rfl⟩
  rw [← hW]
  have hg : Grows w W := by rw [hW]; exact ((Grows.refl _).alloc _).alloc _
  obtain ⟨b1, hb1⟩ : ∃ b, b = w.heap.size := ⟨_, rfl⟩
  obtain ⟨b2, hb2⟩ : ∃ b, b = w.heap.size + 1 := ⟨_, rfl⟩
  rw [← hb2, ← hb1]
  have hR0 : Row W b1 R 26 := by
    rw [hW]; exact (Row.new_at _ _ _ hb1).grows ((Grows.refl _).alloc _)
  have hZ : Row W b2 regs0.toArray 26 := by
    rw [hW]; exact Row.new_at _ _ _ (by rw [hb2]; simp)
  clear hW
  have hn : b1 ≠ b2 := by omega
  have cR : W.cell? ⟨b1, 16, none⟩ = some (.int .u64 pc) := by rw [hR0.cell 16]; exact hpc
  have fR := hR0.frozen 16
  have lR := hR0.lt
  have hS : RegsOk (skipA R pc) := hR.set (by decide) _
  have hR1 := hR0.set 16 (.int .u64 (IntKind.u64.wrap (pc + 4)))
  have hZ1 := row_setOther hZ (p := ⟨b1, 16, none⟩) hn (.int .u64 (IntKind.u64.wrap (pc + 4)))
  have hF := row_setRow hZ1 (skipA R pc)
  have hGF := grows_setRow (hg.setCell (p := ⟨b1, 16, none⟩) (by simp; omega) (.int .u64 (IntKind.u64.wrap (pc + 4)))) (b := b2) (by omega) (skipA R pc)
  have HF := Lib.hid (And.intro hF hGF)
  have HI := Lib.hid (show (Tryd.prog.info? 26).map (·.size) = some (skipA R pc).size by rw [hS.size]; kernel_rfl)
  have HO := Lib.hid hS.one
  have HZ := Lib.hid (show regs0.toArray.size = (skipA R pc).size by rw [hS.size]; rfl)
  clear hF hGF hg hb1 hb2 hR0 hZ hpc hS hsz
  go_wp2_with (first | (refine wpList_load_row rfl 26 _ rfl b1 rfl 26 (skipA R pc) (0, 0) _ hR1 Tryd.underlying26 rfl HI.out ?_) | (refine wpList_store_row rfl 26 _ _ rfl b2 (skipA R pc) rfl rfl 26 _ hZ1 HI.out HZ.out HO.out ?_))
  exact bodyPost_ret (results_cell_row rfl _ _ b2 26 (skipA R pc) (0, 0) _ rfl HF.out.1 Tryd.underlying26 rfl HI.out) rfl ⟨rfl, HF.out.2⟩
def answA (R : Array Value) (pc e v : Int) : Array Value := ((skipA R pc).setIfInBounds 10 (.int .u64 (IntKind.u64.wrap e))).setIfInBounds 11 (.int .u64 v)
theorem answA_ok {R : Array Value} (hR : RegsOk R) (pc e v : Int) : RegsOk (answA R pc e v) := ((RegsOk.set hR (i := 16) (by decide) _).set (i := 10) (by decide) _).set (i := 11) (by decide) v
theorem set_set (c : Array Value) (i : Nat) (x y : Value) : (c.setIfInBounds i x).setIfInBounds i y = c.setIfInBounds i y := by simp
end Go.Proofs.YtjbgamifkgeodaaDoor
