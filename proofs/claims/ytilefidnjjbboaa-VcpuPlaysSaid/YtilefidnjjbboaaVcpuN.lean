/- What the functions of the package vcpu compute of what no call made. -/
import Derived.Test.YtilefidnjjbboaaVcpuStopsW
namespace Go
theorem wpList_wanted_load_mid {P : Program} {ops : Array Oper} {rest : List Oper} {op : Oper} {a : Act} {w : World} {Q : Exit → Act → World → Prop} (hgd : Region.wanted op (yielded ops a.tmps) = true) (ty : TypeId) (x : Operand) (ho : op.op = .load ty x)
    (b o : Nat) (hx : a.eval x = .pointer (some ⟨b, o, none⟩)) (cs : List Value) (d : TypeDesc) (hc : w.rangeAt b o cs) (hd : (match d with | .struct _ | .array _ _ => true | _ => false) = true) (hu : P.underlying ty = some d) (hi : (P.info? ty).map (·.size) = some cs.length)
    (h : wpList P ops Q rest (a.put op.dst (.agg cs.toArray)) w) : wpList P ops Q (op :: rest) a w := by
  unfold wpList; rw [if_pos hgd]; exact Or.inl (wp_load_mid ty x ho b o hx cs d hc hu hd hi h)
end Go
namespace Go.Proofs.Ytilefidnjjbboaa
open Go Go.RowKit
set_option linter.unusedSimpArgs false
set_option linter.unusedVariables false
abbrev zVc : Array Value := #[.int .i64 0, .int .i64 0, .int .i64 0, .int .i64 0, .int .u64 0, .int .u64 0, .int .u64 0, .int .u64 0, .int .u64 0, .int .u64 0, .int .u64 0, .int .u64 0, .int .u64 0, .int .u64 0, .int .u64 0, .int .u64 0, .int .u64 0, .int .u64 0, .int .u64 0, .int .u64 0, .int .u64 0, .int .i64 0, .pointer none]
/-- A Vcpu that no call made. -/
def NoVc (w : World) (v : Option Addr) : Prop := v = none ∨ ∃ b, v = some ⟨b, 0, none⟩ ∧ Row w b zVc 68
theorem NoVc.grows {w w' : World} {v : Option Addr} (h : NoVc w v) (hg : Grows w w') : NoVc w' v := by
  rcases h with h | ⟨b, h, hr⟩
  · exact Or.inl h
  · exact Or.inr ⟨b, h, hr.grows hg⟩
theorem none_nob {w : World} {v : Option Addr} (h : NoVc w v) :
    Calls Try.prog 30 #[.pointer v] w fun e w' => e = .returned (.bool true) ∧ w' = w := by
  rcases h with rfl | ⟨b, rfl, hr⟩
  · go_enter Try.func30, Try.ntmps30
    go_wp2_with fail
    go_ret
    exact ⟨rfl, rfl⟩
  · have c22 : w.cell? ⟨b, 22, none⟩ = some (.pointer none) := hr.cell 22
    clear hr
    go_enter Try.func30, Try.ntmps30
    go_wp2_with fail
    go_ret
    exact ⟨rfl, rfl⟩
theorem name_nob {w : World} {v : Option Addr} (h : NoVc w v) : Calls Try.prog 21 #[.pointer v] w fun e w' => e = .returned (.tuple #[.int .i64 0, .int .i64 0]) ∧ Grows w w' := by
  have hno := none_nob h
  clear h
  go_enter Try.func21, Try.ntmps21
  go_wp2_with fail
  refine (hno).mono ?_
  rintro _ _ ⟨rfl, hw⟩
  rw [hw]
  clear hw
  clear hno
  go_wp2_with fail
  go_ret2
  exact ⟨rfl, Grows.refl _⟩
theorem state_nob {w : World} {v : Option Addr} (h : NoVc w v) : Calls Try.prog 20 #[.pointer v] w fun e w' => e = .returned (.tuple #[.int .i64 0, .int .i64 (-1)]) ∧ Grows w w' := by
  have hno := none_nob h
  clear h
  go_enter Try.func20, Try.ntmps20
  go_wp2_with fail
  refine (hno).mono ?_
  rintro _ _ ⟨rfl, hw⟩
  rw [hw]
  clear hw
  clear hno
  go_wp2_with fail
  go_ret2
  exact ⟨rfl, Grows.refl _⟩
theorem enter_nob {w : World} {v : Option Addr} (h : NoVc w v) (mv : Value) (c rt : Int) : Calls Try.prog 10 #[.pointer v, mv, .int .i64 c, .int .i64 rt] w fun e w' => e = .returned (.int .i64 1) ∧ Grows w w' := by
  have hno := none_nob h
  clear h
  go_enter Try.func10, Try.ntmps10
  go_wp2_with fail
  refine (hno).mono ?_
  rintro _ _ ⟨rfl, hw⟩
  rw [hw]
  clear hw
  clear hno
  go_wp2_with fail
  go_ret
  exact ⟨rfl, Grows.refl _⟩
theorem leave_nob {w : World} {v : Option Addr} (h : NoVc w v) (mv : Value) : Calls Try.prog 11 #[.pointer v, mv] w fun e w' => e = .returned (.int .i64 1) ∧ Grows w w' := by
  have hno := none_nob h
  clear h
  go_enter Try.func11, Try.ntmps11
  go_wp2_with fail
  refine (hno).mono ?_
  rintro _ _ ⟨rfl, hw⟩
  rw [hw]
  clear hw
  clear hno
  go_wp2_with fail
  go_ret
  exact ⟨rfl, Grows.refl _⟩
theorem file_nob {w : World} {v : Option Addr} (h : NoVc w v) : Calls Try.prog 26 #[.pointer v] w fun e w' => e = .returned (.pointer none) ∧ Grows w w' := by
  have hno := none_nob h
  clear h
  go_enter Try.func26, Try.ntmps26
  go_wp2_with fail
  refine (hno).mono ?_
  rintro _ _ ⟨rfl, hw⟩
  rw [hw]
  clear hw
  clear hno
  go_wp2_with fail
  go_ret
  exact ⟨rfl, Grows.refl _⟩
theorem still_nob {w : World} {v : Option Addr} (h : NoVc w v) : Calls Try.prog 36 #[.pointer v] w fun e w' => e = .returned (.int .i64 1) ∧ w' = w := by
  have hno := none_nob h
  clear h
  go_enter Try.func36, Try.ntmps36
  go_wp2_with fail
  refine (hno).mono ?_
  rintro _ _ ⟨rfl, hw⟩
  rw [hw]
  clear hw
  clear hno
  go_wp2_with fail
  go_ret
  exact ⟨rfl, rfl⟩
theorem turn_nob {w : World} {v : Option Addr} (h : NoVc w v) (z : Int) (lv : Value) : Calls Try.prog 35 #[.pointer v, .int .i64 z, lv] w fun e w' => e = .returned (.int .i64 1) ∧ w' = w := by
  have hno := none_nob h
  clear h
  go_enter Try.func35, Try.ntmps35
  go_wp2_with fail
  refine (hno).mono ?_
  rintro _ _ ⟨rfl, hw⟩
  rw [hw]
  clear hw
  clear hno
  go_wp2_with fail
  go_ret
  exact ⟨rfl, rfl⟩
theorem block_nob {w : World} {v : Option Addr} (h : NoVc w v) : Calls Try.prog 14 #[.pointer v] w fun e w' => e = .returned (.int .i64 1) ∧ Grows w w' := by
  go_enter Try.func14, Try.ntmps14
  go_wp2_with fail
  have hg : Grows w (w.alloc (Obj.cells #[.int .i64 1] 3)) := (Grows.refl _).alloc _
  refine (turn_nob (h.grows hg) _ _).mono ?_
  rintro _ _ ⟨rfl, hw⟩
  rw [hw]
  have HG := Lib.hid hg
  clear hw hg h
  go_wp2_with fail
  go_ret
  exact ⟨rfl, HG.out⟩
theorem wake_nob {w : World} {v : Option Addr} (h : NoVc w v) : Calls Try.prog 16 #[.pointer v] w fun e w' => e = .returned (.int .i64 1) ∧ Grows w w' := by
  go_enter Try.func16, Try.ntmps16
  go_wp2_with fail
  have hg : Grows w (w.alloc (Obj.cells #[.int .i64 3] 3)) := (Grows.refl _).alloc _
  refine (turn_nob (h.grows hg) _ _).mono ?_
  rintro _ _ ⟨rfl, hw⟩
  rw [hw]
  have HG := Lib.hid hg
  clear hw hg h
  go_wp2_with fail
  go_ret
  exact ⟨rfl, HG.out⟩
theorem stop_nob {w : World} {v : Option Addr} (h : NoVc w v) : Calls Try.prog 17 #[.pointer v] w fun e w' => e = .returned (.int .i64 1) ∧ Grows w w' := by
  go_enter Try.func17, Try.ntmps17
  go_wp2_with fail
  have hg : Grows w (w.alloc (Obj.cells #[.int .i64 1, .int .i64 3] 3)) := (Grows.refl _).alloc _
  refine (turn_nob (h.grows hg) _ _).mono ?_
  rintro _ _ ⟨rfl, hw⟩
  rw [hw]
  have HG := Lib.hid hg
  clear hw hg h
  go_wp2_with fail
  go_ret
  exact ⟨rfl, HG.out⟩
theorem setregs_nob {w : World} {v : Option Addr} (h : NoVc w v) (mv : Value) (x : Nat → Int) (pc m : Int) : Calls Try.prog 19 #[.pointer v, mv, .agg (regV x pc m).toArray] w fun e w' => e = .returned (.int .i64 1) ∧ Grows w w' := by
  go_enter Try.func19, Try.ntmps19
  go_wp2_with fail
  have hg : Grows w (w.alloc (Obj.cells (regV x pc m).toArray 43)) := (Grows.refl _).alloc _
  refine (still_nob (h.grows hg)).mono ?_
  rintro _ _ ⟨rfl, hw⟩
  rw [hw]
  have HG := Lib.hid hg
  clear hw hg h
  go_wp2_with fail
  go_ret
  exact ⟨rfl, HG.out⟩
theorem load_nob {w : World} {v : Option Addr} (h : NoVc w v) (u : Nat → Int) : Calls Try.prog 23 #[.pointer v, .agg (numA 30 u)] w fun e w' => e = .returned (.int .i64 1) ∧ Grows w w' := by
  go_enter Try.func23, Try.ntmps23
  go_wp2_with fail
  have hg : Grows w (w.alloc (Obj.cells (numA 30 u) 56)) := (Grows.refl _).alloc _
  refine (still_nob (h.grows hg)).mono ?_
  rintro _ _ ⟨rfl, hw⟩
  rw [hw]
  have HG := Lib.hid hg
  clear hw hg h
  go_wp2_with fail
  go_ret
  exact ⟨rfl, HG.out⟩
set_option maxRecDepth 100000 in
theorem regs_nob {w : World} {v : Option Addr} (h : NoVc w v) (mv : Value) : Calls Try.prog 22 #[.pointer v, mv] w fun e w' => e = .returned (.agg zReg) ∧ Grows w w' := by
  go_enter Try.func22, Try.ntmps22
  go_wp2_with fail
  obtain ⟨W1, hW1⟩ : ∃ W1, W1 = w.alloc (Obj.cells zReg 43) := ⟨_, rfl⟩
  obtain ⟨b4, hb4⟩ : ∃ b, b = w.heap.size := ⟨_, rfl⟩
  have HW1 := Lib.hid hW1.symm
  show Calls _ _ _ (w.alloc (Obj.cells zReg 43)) _
  rw [HW1.out, ← hb4]
  have hr4 : Row W1 b4 zReg 43 := by rw [hW1]; exact Row.new_at _ _ _ hb4
  have hg1 : Grows w W1 := by rw [hW1]; exact (Grows.refl _).alloc _
  have hno := none_nob (h.grows hg1)
  have HF := Lib.hid (row_setRow hr4 zReg)
  have HI := Lib.hid (show (Try.prog.info? 43).map (·.size) = some zReg.size by kernel_rfl)
  have HO := Lib.hid (show zReg.all (·.oneCell') = true from regL_one (regV_ok (fun _ => 0) 0 0))
  have HGF := Lib.hid (grows_setRow hg1 (b := b4) (by omega) zReg)
  have HR4 := Lib.hid hr4
  clear hW1 hb4 hr4 hg1 h HW1
  refine (hno).mono ?_
  rintro _ _ ⟨rfl, hw⟩
  rw [hw]
  clear hw
  clear hno
  go_wp2_with (first
    | (refine wpList_store_row (by rfl) 43 _ _ (by rfl) b4 zReg (by rfl) (by rfl) 43 _ (by exact HR4.out) HI.out (by rfl) HO.out ?_))
  exact bodyPost_ret (results_cell_row (by rfl) _ _ b4 43 zReg _ _ (by rfl) HF.out Try.underlying43 (by rfl) HI.out) rfl ⟨rfl, HGF.out⟩
set_option maxRecDepth 100000 in
theorem image_nob {w : World} {v : Option Addr} (h : NoVc w v) (mv : Value) : Calls Try.prog 24 #[.pointer v, mv] w fun e w' => e = .returned (.agg zImg) ∧ Grows w w' := by
  go_enter Try.func24, Try.ntmps24
  go_wp2_with fail
  obtain ⟨W1, hW1⟩ : ∃ W1, W1 = (w.alloc (Obj.cells zImg 56)).alloc (Obj.cells zImg 56) := ⟨_, rfl⟩
  obtain ⟨b4, hb4⟩ : ∃ b, b = w.heap.size := ⟨_, rfl⟩
  obtain ⟨b5, hb5⟩ : ∃ b, b = w.heap.size + 1 := ⟨_, rfl⟩
  have HW1 := Lib.hid hW1.symm
  show Calls _ _ _ ((w.alloc (Obj.cells zImg 56)).alloc (Obj.cells zImg 56)) _
  rw [HW1.out, ← hb5, ← hb4]
  have hr4 : Row W1 b4 zImg 56 := by rw [hW1]; exact (Row.new_at _ _ _ hb4).grows ((Grows.refl _).alloc _)
  have hr5 : Row W1 b5 zImg 56 := by rw [hW1]; exact Row.new_at _ _ _ (by rw [hb5]; simp)
  have hg1 : Grows w W1 := by rw [hW1]; exact ((Grows.refl _).alloc _).alloc _
  have hno := none_nob (h.grows hg1)
  have HF := Lib.hid (row_setRow hr4 zImg)
  have HI := Lib.hid (show (Try.prog.info? 56).map (·.size) = some zImg.size by kernel_rfl)
  have HO := Lib.hid (show zImg.all (·.oneCell') = true by rw [zImg_num]; exact numA_one _ _)
  have HGF := Lib.hid (grows_setRow hg1 (b := b4) (by omega) zImg)
  have HR4 := Lib.hid hr4
  have HR5 := Lib.hid hr5
  clear hW1 hb4 hr4 hg1 h HW1 hb5 hr5
  refine (hno).mono ?_
  rintro _ _ ⟨rfl, hw⟩
  rw [hw]
  clear hw
  clear hno
  go_wp2_with (first
    | (refine wpList_load_row (by rfl) 56 _ (by rfl) b5 (by rfl) 56 zImg (0, 0) _ (by exact HR5.out) Try.underlying56 rfl HI.out ?_)
    | (refine wpList_store_row (by rfl) 56 _ _ (by rfl) b4 zImg (by rfl) (by rfl) 56 _ (by exact HR4.out) HI.out (by rfl) HO.out ?_))
  exact bodyPost_ret (results_cell_row (by rfl) _ _ b4 56 zImg _ _ (by rfl) HF.out Try.underlying56 (by rfl) HI.out) rfl ⟨rfl, HGF.out⟩
/-- Enter and Leave with no machine. -/
theorem cores_no (w : World) : Calls Try.prog 31 #[.pointer none] w fun e w' => e = .returned (.int .i64 0) ∧ w' = w := by
  go_enter Try.func31, Try.ntmps31
  go_wp2_with fail
  go_ret
  exact ⟨rfl, rfl⟩
theorem enter_nom {w : World} {vb fb : Nat} {g ix s co : Int} {R : List Value} {r : Nat → Int} (hv : VcAt w vb fb g ix s co R r) (c rt : Int) : Calls Try.prog 10 #[.pointer (some ⟨vb, 0, none⟩), .pointer none, .int .i64 c, .int .i64 rt] w fun e w' => e = .returned (.int .i64 1) ∧ Grows w w' := by
  have hno := vnone_ok hv
  have hcs := cores_no w
  clear hv
  go_enter Try.func10, Try.ntmps10
  go_wp2_with fail
  refine (hno).mono ?_
  rintro _ _ ⟨rfl, hw⟩
  rw [hw]
  clear hw
  go_wp2_with fail
  refine (hcs).mono ?_
  rintro _ _ ⟨rfl, hw⟩
  rw [hw]
  clear hw
  go_wp2_with fail
  go_ret
  exact ⟨rfl, Grows.refl _⟩
theorem leave_nom {w : World} {vb fb : Nat} {g ix s co : Int} {R : List Value} {r : Nat → Int} (hv : VcAt w vb fb g ix s co R r) : Calls Try.prog 11 #[.pointer (some ⟨vb, 0, none⟩), .pointer none] w fun e w' => e = .returned (.int .i64 1) ∧ Grows w w' := by
  have hno := vnone_ok hv
  have hcs := cores_no w
  clear hv
  go_enter Try.func11, Try.ntmps11
  go_wp2_with fail
  refine (hno).mono ?_
  rintro _ _ ⟨rfl, hw⟩
  rw [hw]
  clear hw
  go_wp2_with fail
  refine (hcs).mono ?_
  rintro _ _ ⟨rfl, hw⟩
  rw [hw]
  clear hw
  go_wp2_with fail
  go_ret
  exact ⟨rfl, Grows.refl _⟩
theorem part_reg {n i : Nat} {A : Array Value} {x : Int} (h : A[i]? = some (.int .u64 x)) (w : World) : (part 29 A (i * 1)).run Try.prog w = .ok (.int .u64 x) w := by
  have hd : Try.prog.underlying 29 = some (.int .u64) := Try.underlying29
  rw [Nat.mul_one]
  simp [part, go_sem, run_underlying hd, h]
theorem eq16 (x0 x1 x2 x3 x4 x5 x6 x7 x8 x9 x10 x11 x12 x13 x14 x15 : Int) (w : World) : (Op.equalIn 9999 41 (.agg #[.int .u64 x0, .int .u64 x1, .int .u64 x2, .int .u64 x3, .int .u64 x4, .int .u64 x5, .int .u64 x6, .int .u64 x7, .int .u64 x8, .int .u64 x9, .int .u64 x10, .int .u64 x11, .int .u64 x12, .int .u64 x13, .int .u64 x14, .int .u64 x15]) (.agg #[.int .u64 x0, .int .u64 x1, .int .u64 x2, .int .u64 x3, .int .u64 x4, .int .u64 x5, .int .u64 x6, .int .u64 x7, .int .u64 x8, .int .u64 x9, .int .u64 x10, .int .u64 x11, .int .u64 x12, .int .u64 x13, .int .u64 x14, .int .u64 x15])).run Try.prog w = .ok true w := by
  obtain ⟨i, hi⟩ := info_of_underlying Try.underlying29
  rw [run_equalIn_array w 9998 _ _ Try.underlying41 hi]
  rw [show Try.prog.cellsOf 29 = 1 by kernel_rfl]
  refine refl_items w 9997 29 .u64 Try.underlying29 _ _ (fun i hi => ?_)
  have : i = 0 ∨ i = 1 ∨ i = 2 ∨ i = 3 ∨ i = 4 ∨ i = 5 ∨ i = 6 ∨ i = 7 ∨ i = 8 ∨ i = 9 ∨ i = 10 ∨ i = 11 ∨ i = 12 ∨ i = 13 ∨ i = 14 ∨ i = 15 := by simp at hi; omega
  rcases this with rfl | rfl | rfl | rfl | rfl | rfl | rfl | rfl | rfl | rfl | rfl | rfl | rfl | rfl | rfl | rfl
  all_goals exact ⟨_, by simp [go_sem]; rfl⟩
theorem neq_regs (x0 x1 x2 x3 x4 x5 x6 x7 x8 x9 x10 x11 x12 x13 x14 x15 pc m : Int) (w : World) : (binOp .neq 43 (.agg #[.int .u64 x0, .int .u64 x1, .int .u64 x2, .int .u64 x3, .int .u64 x4, .int .u64 x5, .int .u64 x6, .int .u64 x7, .int .u64 x8, .int .u64 x9, .int .u64 x10, .int .u64 x11, .int .u64 x12, .int .u64 x13, .int .u64 x14, .int .u64 x15, .int .u64 pc, .int .i64 m]) (.agg #[.int .u64 x0, .int .u64 x1, .int .u64 x2, .int .u64 x3, .int .u64 x4, .int .u64 x5, .int .u64 x6, .int .u64 x7, .int .u64 x8, .int .u64 x9, .int .u64 x10, .int .u64 x11, .int .u64 x12, .int .u64 x13, .int .u64 x14, .int .u64 x15, .int .u64 pc, .int .i64 m])).run Try.prog w = .ok (.bool false) w := by
  have := eq16 x0 x1 x2 x3 x4 x5 x6 x7 x8 x9 x10 x11 x12 x13 x14 x15
  simp [go_sem, this]
theorem neq_regV (x : Nat → Int) (pc m : Int) (w : World) : (binOp .neq 43 (.agg (regV x pc m).toArray) (.agg (regV x pc m).toArray)).run Try.prog w = .ok (.bool false) w :=
  neq_regs (x 0) (x 1) (x 2) (x 3) (x 4) (x 5) (x 6) (x 7) (x 8) (x 9) (x 10) (x 11) (x 12) (x 13) (x 14) (x 15) pc m w
end Go.Proofs.Ytilefidnjjbboaa
