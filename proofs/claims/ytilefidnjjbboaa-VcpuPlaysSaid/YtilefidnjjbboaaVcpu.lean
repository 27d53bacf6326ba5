/- What the functions of the package vcpu compute: New, none, Enter. -/
import Derived.Test.YtilefidnjjbboaaMachC
namespace Go
theorem yieldsIf_build {P : Program} {ops : Array Oper} {S : World → Prop} {op : Oper} {a : Act} {t : TypeId} {parts : Array (Nat × Operand)} {v : Value} {ps : Array (Nat × Value)} (hw : Region.wanted op (yielded ops a.tmps) = true) (ho : op.op = .build t parts) (hp : (parts.map fun (i, x) => (i, a.eval x)) = ps)
    (hv : ∀ w, S w → (Instr.build t ps).run P w = .ok v w) : YieldsIf P ops S op v a :=
  .inl ⟨hw, fun w hw' => by
    unfold execOp
    simp only [ho]
    have := hv w hw'
    rw [← hp] at this
    simp [this, Result.andThen]⟩
end Go
namespace Go.Proofs.Ytilefidnjjbboaa
open Go Go.RowKit
set_option linter.unusedSimpArgs false
set_option linter.unusedVariables false
/-- A virtual processor. -/
def vcL (g ix st co : Int) (R : List Value) (fb : Nat) : List Value := [Value.int .i64 g, Value.int .i64 ix, Value.int .i64 st, Value.int .i64 co] ++ R ++ [Value.pointer (some ⟨fb, 0, none⟩)]
/-- The first registers. -/
def regs1 (pc : Int) : List Value := [.int .u64 0, .int .u64 0, .int .u64 0, .int .u64 0, .int .u64 0, .int .u64 0, .int .u64 0, .int .u64 0, .int .u64 0, .int .u64 0, .int .u64 0, .int .u64 0, .int .u64 0, .int .u64 0, .int .u64 0, .int .u64 0, .int .u64 pc, .int .i64 1]
theorem regs1_ok (pc : Int) : RegL (regs1 pc) := ⟨_, _, _, _, _, _, _, _, _, _, _, _, _, _, _, _, _, _, rfl⟩
/-- A Vcpu and its file. -/
structure VcAt (w : World) (vb fb : Nat) (g ix st co : Int) (R : List Value) (r : Nat → Int) : Prop where
  row : Row w vb (vcL g ix st co R fb).toArray 68
  file : File w fb r
  reg : RegL R
theorem VcAt.chg {S : List Nat} {w w' : World} {vb fb : Nat} {g ix st co : Int} {R : List Value} {r : Nat → Int} (h : VcAt w vb fb g ix st co R r) (hc : Chg S w w') (h1 : vb ∉ S ∧ fb ∉ S) : VcAt w' vb fb g ix st co R r :=
  ⟨h.row.chg hc h1.1, Row.chg h.file hc h1.2, h.reg⟩
theorem VcAt.grows {w w' : World} {vb fb : Nat} {g ix st co : Int} {R : List Value} {r : Nat → Int} (h : VcAt w vb fb g ix st co R r) (hg : Grows w w') : VcAt w' vb fb g ix st co R r :=
  h.chg (S := []) (Chg.of_grows hg) (by simp)
theorem vcL_at {g ix st co : Int} {R : List Value} {fb : Nat} (h : RegL R) : (vcL g ix st co R fb).toArray[0]? = some (.int .i64 g) ∧ (vcL g ix st co R fb).toArray[1]? = some (.int .i64 ix) ∧ (vcL g ix st co R fb).toArray[2]? = some (.int .i64 st) ∧ (vcL g ix st co R fb).toArray[3]? = some (.int .i64 co) ∧ (vcL g ix st co R fb).toArray[22]? = some (.pointer (some ⟨fb, 0, none⟩)) ∧ (vcL g ix st co R fb).toArray.size = 23 := by
  obtain ⟨x0, x1, x2, x3, x4, x5, x6, x7, x8, x9, x10, x11, x12, x13, x14, x15, pc, m, rfl⟩ := h; exact ⟨rfl, rfl, rfl, rfl, rfl, rfl⟩
theorem vcL_set {g ix st co st' co' : Int} {R : List Value} {fb : Nat} (h : RegL R) : ((vcL g ix st co R fb).toArray.setIfInBounds 2 (.int .i64 st')).setIfInBounds 3 (.int .i64 co') = (vcL g ix st' co' R fb).toArray := by
  obtain ⟨x0, x1, x2, x3, x4, x5, x6, x7, x8, x9, x10, x11, x12, x13, x14, x15, pc, m, rfl⟩ := h; rfl
theorem VcAt.cells {w : World} {vb fb : Nat} {g ix st co : Int} {R : List Value} {r : Nat → Int} (h : VcAt w vb fb g ix st co R r) :
    w.cell? ⟨vb, 0, none⟩ = some (.int .i64 g) ∧ w.cell? ⟨vb, 2, none⟩ = some (.int .i64 st) ∧ w.cell? ⟨vb, 3, none⟩ = some (.int .i64 co) ∧ w.cell? ⟨vb, 22, none⟩ = some (.pointer (some ⟨fb, 0, none⟩)) := by
  obtain ⟨h0, h1, h2, h3, h4, h5⟩ := vcL_at (g := g) (ix := ix) (st := st) (co := co) (fb := fb) h.reg
  exact ⟨by rw [h.row.cell]; exact h0, by rw [h.row.cell]; exact h2, by rw [h.row.cell]; exact h3, by rw [h.row.cell]; exact h4⟩
theorem VcAt.range {w : World} {vb fb : Nat} {g ix st co : Int} {R : List Value} {r : Nat → Int} (h : VcAt w vb fb g ix st co R r) : w.rangeAt vb 4 R :=
  Row.range h.row (fun j v hv => mid_get [Value.int .i64 g, Value.int .i64 ix, Value.int .i64 st, Value.int .i64 co] R _ j v hv)
set_option maxRecDepth 100000 in
theorem vnew_ok (w : World) {g ix : Int} (pc : Int) (hg : 1 ≤ g) (hg2 : g ≤ 16) (hi : 0 ≤ ix) (hi2 : ix < 4) :
    Calls Try.prog 9 #[.int .i64 g, .int .i64 ix, .int .u64 pc] w fun e w' => ∃ vb fb, e = .returned (.tuple #[.pointer (some ⟨vb, 0, none⟩), .int .i64 0]) ∧ VcAt w' vb fb g ix 1 (-1) (regs1 pc) (updR (fun _ => 0) 11 ix) ∧ Grows w w' ∧ w.heap.size ≤ vb ∧ w.heap.size ≤ fb := by
  have hcn := new_any (k := ix) (by omega) w
  have d1 : decide (g < 1) = false := decide_eq_false (by omega)
  have d2 : decide (16 < g) = false := decide_eq_false (by omega)
  have d3 : decide (ix < 0) = false := decide_eq_false (by omega)
  have d4 : decide (4 ≤ ix) = false := decide_eq_false (by omega)
  go_enter Try.func9, Try.ntmps9
  go_wp2_with fail
  refine hcn.mono ?_
  rintro _ w1 ⟨rfl, hF, hg1⟩
  go_wp2_with fail
  go_ret2
  exact ⟨w1.heap.size, w.heap.size, rfl, ⟨Row.new_at _ _ _ rfl, Row.grows hF ((Grows.refl _).alloc _), regs1_ok pc⟩, hg1.alloc _, hg1.size, Nat.le_refl _⟩
theorem vnone_ok {w : World} {vb fb : Nat} {g ix st co : Int} {R : List Value} {r : Nat → Int} (h : VcAt w vb fb g ix st co R r) :
    Calls Try.prog 30 #[.pointer (some ⟨vb, 0, none⟩)] w fun e w' => e = .returned (.bool false) ∧ w' = w := by
  obtain ⟨c0, c2, c3, c22⟩ := h.cells
  clear h
  go_enter Try.func30, Try.ntmps30
  go_wp2_with fail
  go_ret
  exact ⟨rfl, rfl⟩
theorem build_cx {R : List Value} (h : RegL R) (g rt : Int) (fb : Nat) (w : World) : (Instr.build 61 #[(0, .int .i64 g), (1, .agg R.toArray), (2, .pointer (some ⟨fb, 0, none⟩)), (3, .int .i64 rt)]).run Try.prog w = .ok (.agg (cxL g R fb rt).toArray) w := by
  obtain ⟨x0, x1, x2, x3, x4, x5, x6, x7, x8, x9, x10, x11, x12, x13, x14, x15, pc, m, rfl⟩ := h
  kernel_rfl
/-- A machine and a Vcpu lie apart. -/
structure Apart (pm me N : Nat) (cb : Nat → Nat) (vb fb : Nat) : Prop where
  a1 : pm ≠ vb ∧ me ≠ vb ∧ pm ≠ fb ∧ me ≠ fb
  a2 : ∀ i, i < N → cb i ≠ vb ∧ cb i ≠ fb
/-- By their types they do. -/
theorem apart_of {w : World} {pm me N F vb fb : Nat} {cb : Nat → Nat} {st : Nat → Option (List Value)} {g ix s co : Int} {R : List Value} {r : Nat → Int} (h : MachAt w pm me N F cb st) (hv : VcAt w vb fb g ix s co R r) : Apart pm me N cb vb fb := by
  obtain ⟨_, _, _, hm, _⟩ := h.hd
  obtain ⟨_, hq⟩ := h.mem
  have hf : Row w fb (fileA r) 110 := hv.file
  refine ⟨⟨fun e => ?_, fun e => ?_, fun e => ?_, fun e => ?_⟩, fun i hi => ?_⟩
  · subst e; exact absurd (row_type hm hv.row) (by decide)
  · subst e; exact absurd (row_type hq hv.row) (by decide)
  · subst e; exact absurd (row_type hm hf) (by decide)
  · subst e; exact absurd (row_type hq hf) (by decide)
  · obtain ⟨_, _, _, _, hr⟩ := h.cores i hi
    exact ⟨fun e => by rw [e] at hr; exact absurd (row_type hr hv.row) (by decide), fun e => by rw [e] at hr; exact absurd (row_type hr hf) (by decide)⟩
theorem vf_ne {w : World} {vb fb : Nat} {g ix s co : Int} {R : List Value} {r : Nat → Int} (hv : VcAt w vb fb g ix s co R r) : vb ≠ fb := fun e => by
  have hf : Row w fb (fileA r) 110 := hv.file
  subst e
  exact absurd (row_type hf hv.row) (by decide)
theorem VcAt.turn {w : World} {vb fb : Nat} {g ix s co : Int} {R : List Value} {r : Nat → Int} (hv : VcAt w vb fb g ix s co R r) (s' co' : Int) : VcAt ((w.setCell ⟨vb, 2, none⟩ (.int .i64 s')).setCell ⟨vb, 3, none⟩ (.int .i64 co')) vb fb g ix s' co' R r := by
  have h1 := (hv.row.put 2 (.int .i64 s')).put 3 (.int .i64 co')
  rw [vcL_set hv.reg] at h1
  have hne := vf_ne hv
  exact ⟨h1, Row.chg (S := [vb]) hv.file (((Chg.refl _ _).setCell (Or.inl (by simp)) _ _).setCell (Or.inl (by simp)) _ _) (by simp; exact fun e => hne e.symm), hv.reg⟩
set_option maxRecDepth 100000 in
set_option maxHeartbeats 4000000 in
theorem enter_ok {w : World} {pm me N F c vb fb : Nat} {cb : Nat → Nat} {st : Nat → Option (List Value)} {g ix co rt : Int} {R : List Value} {r : Nat → Int} (h : MachAt w pm me N F cb st) (hN1 : 1 ≤ N) (hN : N ≤ 8) (hF : F ≤ 65536) (hc : c < N) (hst : st c = none) (hv : VcAt w vb fb g ix 1 co R r) (hg : 0 ≤ g) (hrt : 0 ≤ rt) (hrF : rt < F) :
    Calls Try.prog 10 #[.pointer (some ⟨vb, 0, none⟩), .pointer (some ⟨pm, 0, none⟩), .int .i64 c, .int .i64 rt] w fun e w' => e = .returned (.int .i64 0) ∧ MachAt w' pm me N F cb (fun i => if i = c then some (cxL g R fb rt) else st i) ∧ VcAt w' vb fb g ix 2 c R r ∧ Chg [cb c, vb] w w' := by
  have hno := vnone_ok hv
  have hcs := cores_ok h
  have hap := apart_of h hv
  have hbd := build_cx hv.reg g rt fb
  obtain ⟨c0, c2, c3, c22⟩ := hv.cells
  have hn0 : ((N : Int) == 0) = false := by simp; omega
  have HM := Lib.hid h
  have HV := Lib.hid hv
  have HAP := Lib.hid hap
  clear h hv hap
  go_enter Try.func10, Try.ntmps10
  go_wp2_with fail
  refine (hno).mono ?_
  rintro _ _ ⟨rfl, hw⟩
  rw [hw]
  clear hw
  go_wp2_with fail
  refine (hcs).mono ?_
  rintro _ _ ⟨rfl, hw⟩
  rw [hw]
  clear hw
  go_wp2_with fail
  clear hno hcs c2 c3
  refine wp_region_held_drew (S := fun w' => VcAt w' vb fb g ix 1 co R r) (by kernel_rfl) (HV.out.grows ((Grows.refl _).drew)) (fun hHeld => ?_)
  refine wpAnyH_take (i := 0) (v := ?_) rfl (by kernel_rfl) (by kernel_rfl) (by kernel_rfl) (fun _ _ _ h => h) (Or.inl ⟨by rfl, ?_⟩) (by assumption) ?_
  rotate_left
  · intro w hSw
    go_simp
    try with_reducible rfl
  simp only [List.getElem_toArray, List.getElem_cons_succ, List.getElem_cons_zero, Act.put, List.setIfInBounds_toArray, List.set_cons_zero, List.set_cons_succ]
  refine wpAnyH_take (i := 1) (v := ?_) rfl (by kernel_rfl) (by kernel_rfl) (by kernel_rfl) (fun _ _ _ h => h) (Or.inl ⟨by rfl, ?_⟩) (by assumption) ?_
  rotate_left
  · intro w hSw
    go_simp
    try with_reducible rfl
  simp only [List.getElem_toArray, List.getElem_cons_succ, List.getElem_cons_zero, Act.put, List.setIfInBounds_toArray, List.set_cons_zero, List.set_cons_succ]
  refine wpAnyH_take (i := 2) (v := ?_) rfl (by kernel_rfl) (by kernel_rfl) (by kernel_rfl) (fun _ _ _ h => h) (Or.inl ⟨by rfl, ?_⟩) (by assumption) ?_
  rotate_left
  · intro w hSw
    go_simp
    try with_reducible rfl
  simp only [List.getElem_toArray, List.getElem_cons_succ, List.getElem_cons_zero, Act.put, List.setIfInBounds_toArray, List.set_cons_zero, List.set_cons_succ]
  refine wpAnyH_take (i := 3) (v := ?_) rfl (by kernel_rfl) (by kernel_rfl) (by kernel_rfl) (fun _ _ _ h => h) (Or.inl ⟨by rfl, ?_⟩) (by assumption) ?_
  rotate_left
  · intro w hSw
    go_simp
    try with_reducible rfl
  simp only [List.getElem_toArray, List.getElem_cons_succ, List.getElem_cons_zero, Act.put, List.setIfInBounds_toArray, List.set_cons_zero, List.set_cons_succ]
  refine wpAnyH_take (i := 4) (v := ?_) rfl (by kernel_rfl) (by kernel_rfl) (by kernel_rfl) (fun _ _ _ h => h) (Or.inl ⟨by rfl, ?_⟩) (by assumption) ?_
  rotate_left
  · intro w hSw
    go_simp
    try with_reducible rfl
  simp only [List.getElem_toArray, List.getElem_cons_succ, List.getElem_cons_zero, Act.put, List.setIfInBounds_toArray, List.set_cons_zero, List.set_cons_succ]
  refine wpAnyH_take (i := 5) (v := ?_) rfl (by kernel_rfl) (by kernel_rfl) (by kernel_rfl) (fun _ _ _ h => h) (Or.inl ⟨by rfl, ?_⟩) (by assumption) ?_
  rotate_left
  · intro w hSw
    obtain ⟨q0, q2, q3, q22⟩ := VcAt.cells hSw
    go_simp
    try with_reducible rfl
  simp only [List.getElem_toArray, List.getElem_cons_succ, List.getElem_cons_zero, Act.put, List.setIfInBounds_toArray, List.set_cons_zero, List.set_cons_succ]
  refine wpAnyH_take (i := 6) (v := ?_) rfl (by kernel_rfl) (by kernel_rfl) (by kernel_rfl) (fun _ _ _ h => h) (Or.inl ⟨by rfl, ?_⟩) (by assumption) ?_
  rotate_left
  · intro w hSw
    go_simp
    try with_reducible rfl
  simp only [List.getElem_toArray, List.getElem_cons_succ, List.getElem_cons_zero, Act.put, List.setIfInBounds_toArray, List.set_cons_zero, List.set_cons_succ]
  refine wpAnyH_take (i := 7) (v := ?_) rfl (by kernel_rfl) (by kernel_rfl) (by kernel_rfl) (fun _ _ _ h => h) (Or.inl ⟨by rfl, ?_⟩) (by assumption) ?_
  rotate_left
  · intro w hSw
    go_simp
    try with_reducible rfl
  simp only [List.getElem_toArray, List.getElem_cons_succ, List.getElem_cons_zero, Act.put, List.setIfInBounds_toArray, List.set_cons_zero, List.set_cons_succ]
  refine wpAnyH_take (i := 8) (v := ?_) rfl (by kernel_rfl) (by kernel_rfl) (by kernel_rfl) (fun _ _ _ h => h) (Or.inl ⟨by rfl, ?_⟩) (by assumption) ?_
  rotate_left
  · intro w hSw
    go_simp
    try with_reducible rfl
  simp only [List.getElem_toArray, List.getElem_cons_succ, List.getElem_cons_zero, Act.put, List.setIfInBounds_toArray, List.set_cons_zero, List.set_cons_succ]
  refine wpAnyH_take (i := 9) (v := .agg R.toArray) rfl (by kernel_rfl) (by kernel_rfl) (by kernel_rfl) (fun _ _ _ h => h) (yieldsIf_load_mid (by rfl) 43 _ (by rfl) vb 4 (by rfl) R _ (fun w hw => VcAt.range hw) Try.underlying43 (by rfl) (by rw [HV.out.reg.len]; kernel_rfl)) (by assumption) ?_
  simp only [List.getElem_toArray, List.getElem_cons_succ, List.getElem_cons_zero, Act.put, List.setIfInBounds_toArray, List.set_cons_zero, List.set_cons_succ]
  refine wpAnyH_take (i := 10) (v := ?_) rfl (by kernel_rfl) (by kernel_rfl) (by kernel_rfl) (fun _ _ _ h => h) (Or.inl ⟨by rfl, ?_⟩) (by assumption) ?_
  rotate_left
  · intro w hSw
    go_simp
    try with_reducible rfl
  simp only [List.getElem_toArray, List.getElem_cons_succ, List.getElem_cons_zero, Act.put, List.setIfInBounds_toArray, List.set_cons_zero, List.set_cons_succ]
  refine wpAnyH_take (i := 11) (v := ?_) rfl (by kernel_rfl) (by kernel_rfl) (by kernel_rfl) (fun _ _ _ h => h) (Or.inl ⟨by rfl, ?_⟩) (by assumption) ?_
  rotate_left
  · intro w hSw
    go_simp
    try with_reducible rfl
  simp only [List.getElem_toArray, List.getElem_cons_succ, List.getElem_cons_zero, Act.put, List.setIfInBounds_toArray, List.set_cons_zero, List.set_cons_succ]
  refine wpAnyH_take (i := 12) (v := ?_) rfl (by kernel_rfl) (by kernel_rfl) (by kernel_rfl) (fun _ _ _ h => h) (Or.inl ⟨by rfl, ?_⟩) (by assumption) ?_
  rotate_left
  · intro w hSw
    go_simp
    try with_reducible rfl
  simp only [List.getElem_toArray, List.getElem_cons_succ, List.getElem_cons_zero, Act.put, List.setIfInBounds_toArray, List.set_cons_zero, List.set_cons_succ]
  refine wpAnyH_take (i := 13) (v := ?_) rfl (by kernel_rfl) (by kernel_rfl) (by kernel_rfl) (fun _ _ _ h => h) (Or.inl ⟨by rfl, ?_⟩) (by assumption) ?_
  rotate_left
  · intro w hSw
    obtain ⟨q0, q2, q3, q22⟩ := VcAt.cells hSw
    go_simp
    try with_reducible rfl
  simp only [List.getElem_toArray, List.getElem_cons_succ, List.getElem_cons_zero, Act.put, List.setIfInBounds_toArray, List.set_cons_zero, List.set_cons_succ]
  refine wpAnyH_take (i := 14) (v := ?_) rfl (by kernel_rfl) (by kernel_rfl) (by kernel_rfl) (fun _ _ _ h => h) (Or.inl ⟨by rfl, ?_⟩) (by assumption) ?_
  rotate_left
  · intro w hSw
    go_simp
    try with_reducible rfl
  simp only [List.getElem_toArray, List.getElem_cons_succ, List.getElem_cons_zero, Act.put, List.setIfInBounds_toArray, List.set_cons_zero, List.set_cons_succ]
  refine wpAnyH_take (i := 15) (v := .agg (cxL g R fb rt).toArray) rfl (by kernel_rfl) (by kernel_rfl) (by kernel_rfl) (fun _ _ _ h => h) (yieldsIf_build (ps := #[(0, .int .i64 g), (1, .agg R.toArray), (2, .pointer (some ⟨fb, 0, none⟩)), (3, .int .i64 rt)]) (by rfl) (by rfl) (by first | rfl | (simp; done) | (simp; rfl) | (simp; exact ⟨rfl, rfl, rfl, rfl⟩)) (fun w _ => hbd w)) (by assumption) ?_
  simp only [List.getElem_toArray, List.getElem_cons_succ, List.getElem_cons_zero, Act.put, List.setIfInBounds_toArray, List.set_cons_zero, List.set_cons_succ]
  clear hbd
  refine wpAnyH_ready (rs := [16]) (by kernel_rfl) (by simp) ?_
  refine AllReadyH.cons rfl (fun K hK => ?_) AllReadyH.nil
  go_simp
  refine (put_ok (HM.out.grows ((Grows.refl _).drew)) hN hF hc hst HV.out.reg (HV.out.grows ((Grows.refl _).drew)).file hg hrt hrF).mono ?_
  rintro _ w3 ⟨rfl, hM3, hC3⟩
  have hV3 := (HV.out.grows ((Grows.refl _).drew)).chg hC3 (by simp; exact ⟨fun e => (HAP.out.a2 c hc).1 e.symm, fun e => (HAP.out.a2 c hc).2 e.symm⟩)
  go_wp2_with fail
  refine hK.out _ _ hV3 (fun hHeld4 => ?_)
  clear hK K
  refine wpAnyH_take (i := 17) (v := ?_) rfl (by kernel_rfl) (by kernel_rfl) (by kernel_rfl) (fun _ _ _ h => h) (Or.inl ⟨by rfl, ?_⟩) (by assumption) ?_
  rotate_left
  · intro w hSw
    go_simp
    try with_reducible rfl
  simp only [List.getElem_toArray, List.getElem_cons_succ, List.getElem_cons_zero, Act.put, List.setIfInBounds_toArray, List.set_cons_zero, List.set_cons_succ]
  refine wpAnyH_done (by kernel_rfl) ?_ _
  obtain ⟨k0, k2, k3, k22⟩ := hV3.cells
  have f2 := hV3.row.frozen 2
  have f3 := hV3.row.frozen 3
  have HV3 := Lib.hid (hV3.turn 2 c)
  have hc35 : Chg [vb] w3 ((w3.setCell ⟨vb, 2, none⟩ (.int .i64 2)).setCell ⟨vb, 3, none⟩ (.int .i64 c)) := ((Chg.refl _ _).setCell (Or.inl (by simp)) _ _).setCell (Or.inl (by simp)) _ _
  have HM3 := Lib.hid (hM3.chg hc35 (by simp; exact ⟨HAP.out.a1.1, HAP.out.a1.2.1, fun i hi => (HAP.out.a2 i hi).1⟩) (fun b hb => by simp at hb; subst hb; exact ⟨_, _, hV3.row, by decide⟩))
  have HC3 := Lib.hid (((Chg.of_grows ((Grows.refl w).drew)).trans (hC3.weaken (T := [cb c, vb]) (by simp))).trans (hc35.weaken (T := [cb c, vb]) (by simp)))
  clear hHeld hHeld4 hV3 hM3 hC3 hc35 HM HV HAP c0 c22 k0 k22
  go_wp2_with fail
  go_ret
  exact ⟨rfl, HM3.out, HV3.out, HC3.out⟩
end Go.Proofs.Ytilefidnjjbboaa
