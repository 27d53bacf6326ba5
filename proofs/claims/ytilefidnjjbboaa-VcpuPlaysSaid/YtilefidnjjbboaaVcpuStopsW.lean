/- The walk of VcpuStops. -/
import Derived.Test.YtilefidnjjbboaaVcpuG
import Derived.BigRegion
import Derived.DeepKeys
namespace Go
theorem quiet_load_row {P : Program} {C : World → Prop} {o : Oper} {a : Act} {K : Act → Prop} (ty : TypeId) (x : Operand) (ho : o.op = .load ty x) (g : Nat) (hx : a.eval x = .pointer (some ⟨g, 0, none⟩)) (t : TypeId) (cs : Array Value) (d : TypeDesc)
    (hrow : ∀ w, C w → Row w g cs t) (hu : P.underlying ty = some d) (hd : (match d with | .struct _ | .array _ _ => true | _ => false) = true) (hi : (P.info? ty).map (·.size) = some cs.size) (hk : K (a.put o.dst (.agg cs))) : o.quiet P a C K := by
  refine ⟨.agg cs, fun w hw => ?_, hk⟩
  unfold Oper.quietAt execOp
  simp only [ho, hx, Instr.loadAt, Instr.sureAddr, Sem.run_bind, Sem.run_pure, Result.andThen_ok, run_loadVar_row w g t ty cs (0, 0) d (hrow w hw) hu hd hi]
  exact ⟨rfl, rfl⟩
theorem wpList_wanted_load_row {P : Program} {ops : Array Oper} {rest : List Oper} {o : Oper} {a : Act} {w : World} {Q : Exit → Act → World → Prop} (hgd : Region.wanted o (yielded ops a.tmps) = true) (ty : TypeId) (x : Operand) (ho : o.op = .load ty x)
    (g : Nat) (hx : a.eval x = .pointer (some ⟨g, 0, none⟩)) (t : TypeId) (cs : Array Value) (fr : Nat × Nat) (d : TypeDesc) (hg : w.heap[g]? = some (.cells cs t fr))
    (hu : P.underlying ty = some d) (hd : (match d with | .struct _ | .array _ _ => true | _ => false) = true) (hi : (P.info? ty).map (·.size) = some cs.size)
    (h : wpList P ops Q rest (a.put o.dst (.agg cs)) w) : wpList P ops Q (o :: rest) a w := by
  unfold wpList; rw [if_pos hgd]; exact Or.inl (wp_load_row ty x ho g hx t cs fr d hg hu hd hi h)
theorem refl_items {P : Program} (w : World) (d : Nat) (e : TypeId) (k : IntKind) (he : P.underlying e = some (.int k)) (xs : Array Value) : ∀ (is : List Nat), (∀ i ∈ is, ∃ x, (part e xs (i * 1)).run P w = .ok (.int k x) w) → (Op.eqItems (d + 1) e 1 xs xs is).run P w = .ok true w
  | [], _ => by simp [Op.eqItems]
  | i :: is, h => by
    obtain ⟨x, hx⟩ := h i (by simp)
    have ih := refl_items w d e k he xs is (fun j hj => h j (by simp [hj]))
    simp only [Op.eqItems, Sem.run_bind, hx, Result.andThen_ok, run_equalIn_int w d e k k x x he, beq_self_eq_true]
    simpa using ih
end Go
namespace Go.Proofs.Ytilefidnjjbboaa
open Go Go.RowKit
set_option linter.unusedSimpArgs false
set_option linter.unusedVariables false
theorem part_num (n i : Nat) (u : Nat → Int) (h : i < n) (w : World) : (part 29 (numA n u) (i * 1)).run Try.prog w = .ok (.int .u64 (u i)) w := by
  have hg := numA_get u h
  have hd : Try.prog.underlying 29 = some (.int .u64) := Try.underlying29
  rw [Nat.mul_one]
  simp [part, go_sem, run_underlying hd, hg]
theorem eq_img0 (u : Nat → Int) (w : World) : (Op.equalIn 10000 56 (.agg (numA 30 u)) (.agg (numA 30 u))).run Try.prog w = .ok true w := by
  obtain ⟨i, hi⟩ := info_of_underlying Try.underlying29
  rw [run_equalIn_array w 9999 _ _ Try.underlying56 hi]
  rw [show Try.prog.cellsOf 29 = 1 by kernel_rfl]
  exact refl_items w 9998 29 .u64 Try.underlying29 _ _ (fun i hi => ⟨_, part_num 30 i u (by simpa using hi) w⟩)
theorem eql_img (u : Nat → Int) (w : World) : (binOp .eql 56 (.agg (numA 30 u)) (.agg (numA 30 u))).run Try.prog w = .ok (.bool true) w := by
  rw [run_eql_struct, eq_img0]; rfl
theorem neq_img (u : Nat → Int) (w : World) : (binOp .neq 56 (.agg (numA 30 u)) (.agg (numA 30 u))).run Try.prog w = .ok (.bool false) w := by
  rw [run_neq_struct, eq_img0]; rfl
theorem quiet_of {w : World} {f : FuncId} {args : Array Value} {v : Value} (h : ∀ W, Grows w W → Calls Try.prog f args W fun e w' => e = .returned v ∧ Grows W w') (g : Pad) : Calls Try.prog f args (w.grow g) fun e w' => e = .returned v ∧ ∃ h, w' = w.grow h :=
  (h _ (Grows.of _ g)).mono fun _ _ ⟨he, hg⟩ => ⟨he, (Grows.of _ g).trans hg⟩
theorem image_own {w : World} {vb fb : Nat} {g ix s co : Int} {x : Nat → Int} {pc q : Int} {r : Nat → Int} (h : VcAt w vb fb g ix s co (regV x pc q) r) (hs : s ≠ 2) (hq : q = 0 ∨ q = 1) (mv : Value) :
    Calls Try.prog 24 #[.pointer (some ⟨vb, 0, none⟩), mv] w fun e w' => e = .returned (.agg (numA 30 (imgF x pc q r))) ∧ Grows w w' :=
  image_any h mv x pc q q (by rcases hq with rfl | rfl <;> decide) (fun W hg => regs_own (h.grows hg) hs mv)
theorem turned_miss {w w' : World} {vb fb : Nat} {g ix s co z : Int} {R : List Value} {r : Nat → Int} {hit : Prop} [Decidable hit] {e : Ending} (h : Turned w w' vb fb g ix s co z R r hit e) (hn : ¬ hit) : e = .returned (.int .i64 21) ∧ Grows w w' :=
  ⟨by have := h.1; rwa [if_neg hn] at this, h.2.2.2 hn⟩
theorem turned_hit {w w' : World} {vb fb : Nat} {g ix s co z : Int} {R : List Value} {r : Nat → Int} {hit : Prop} [Decidable hit] {e : Ending} (h : Turned w w' vb fb g ix s co z R r hit e) (hn : hit) : e = .returned (.int .i64 0) ∧ VcAt w' vb fb g ix z co R r ∧ Chg [vb] w w' :=
  ⟨by have := h.1; rwa [if_pos hn] at this, by have := h.2.1; rwa [if_pos hn] at this, h.2.2.1⟩
theorem mach_vc {w w' : World} {pm me N F vb fb : Nat} {cb : Nat → Nat} {st : Nat → Option (List Value)} {g ix s co : Int} {R : List Value} {r : Nat → Int} (h : MachAt w pm me N F cb st) (hv : VcAt w vb fb g ix s co R r) (hc : Chg [vb, fb] w w') : MachAt w' pm me N F cb st := by
  have hap := apart_of h hv
  refine h.chg hc (by simp; exact ⟨⟨hap.a1.1, hap.a1.2.2.1⟩, ⟨hap.a1.2.1, hap.a1.2.2.2⟩, fun i hi => hap.a2 i hi⟩) (fun b hb => ?_)
  simp at hb
  rcases hb with rfl | rfl
  · exact ⟨_, _, hv.row, by decide⟩
  · exact ⟨_, _, hv.file, by decide⟩
set_option maxRecDepth 100000 in
set_option maxHeartbeats 4000000 in
theorem vcpuStops_law (l : Nat → Int) (hl0 : 0 ≤ l 17 ∧ l 17 < 18446744073709551616) (bl : Bool) (w : World) :
    Calls Try.prog 6 #[.agg (numA 30 l), .bool bl] w fun r w' => r = .returned (.bool true) ∧ Grows w w' := by
  obtain ⟨q, hq, hq2⟩ : ∃ q, bits .and .u64 (l 17) 1 = q ∧ (q = 0 ∨ q = 1) := by
    have e : bits .and .u64 (l 17) 1 = l 17 % 2 := and_mask_u64 (n := 1) hl0.1 hl0.2 (by omega)
    exact ⟨_, e, by omega⟩
  clear hl0
  go_enter Try.func6, Try.ntmps6
  go_wp2_with fail
  obtain ⟨W1, hW1⟩ : ∃ W1, W1 = w.alloc (Obj.cells (numA 30 l) 56) := ⟨_, rfl⟩
  obtain ⟨b2, hb2⟩ : ∃ b, b = w.heap.size := ⟨_, rfl⟩
  rw [← hW1, ← hb2]
  have hg1 : Grows w W1 := by rw [hW1]; exact (Grows.refl _).alloc _
  have hr2 : Row W1 b2 (numA 30 l) 56 := by rw [hW1]; exact Row.new_at _ _ _ hb2
  have HB2 := Lib.hid (show w.heap.size ≤ b2 by omega)
  clear hW1 hb2
  refine (machnew_ok W1 (N := 1) (F := 1) (by omega) (by omega) (by omega) (by omega)).mono ?_
  rintro _ w2 ⟨pm, me, cb, rfl, hM2, hg2, hpm, hcb⟩
  go_wp2_with fail
  refine (vnew_ok w2 (g := 2) (ix := 1) 0 (by omega) (by omega) (by omega) (by omega)).mono ?_
  rintro _ w3 ⟨vb, fb, rfl, hV3, hg3, hvb, hfb⟩
  have hM3 := hM2.grows hg3
  have hr3 := (hr2.grows hg2).grows hg3
  have hg3 := (hg1.trans hg2).trans hg3
  have hl2 := hr2.lt
  have hs2 := hg2.size
  have HN := Lib.hid (show b2 < vb ∧ b2 < fb ∧ w.heap.size ≤ vb ∧ w.heap.size ≤ fb by have := HB2.out; omega)
  have hld := load_ok hV3 (by omega) l hq hq2
  have HI := Lib.hid (size_img l)
  have HR3 := Lib.hid hr3
  have HM3 := Lib.hid hM3
  have HV3 := Lib.hid hV3
  have HG3 := Lib.hid hg3
  clear hM2 hg2 hpm hcb hV3 hg3 hvb hfb hM3 hr3 hg1 hr2 hl2 hs2
  go_wp2_with (first
    | (refine wpList_wanted_load_row (by rfl) 56 _ (by rfl) b2 (by rfl) 56 (numA 30 l) (0, 0) _ (by exact HR3.out) Try.underlying56 rfl HI.out ?_))
  refine hld.mono ?_
  rintro _ w4 ⟨rfl, hV4, hC4⟩
  have hM4 := mach_vc HM3.out HV3.out hC4
  have hg4 : Grows w w4 := hC4.to_grows HG3.out (by have := HN.out; simp; omega)
  have him := image_own hV4 (by omega) hq2 (.pointer (some ⟨pm, 0, none⟩))
  obtain ⟨I, hI⟩ : ∃ I, I = imgF (updR l 0 0) (l 16) q (loadR (updR (fun _ => 0) 11 1) l) := ⟨_, rfl⟩
  rw [← hI] at him
  have HIM := Lib.hid hI.symm
  have HSI := Lib.hid (size_img I)
  have HOI := Lib.hid (numA_one 30 I)
  have HSZ := Lib.hid (show zImg.size = (numA 30 I).size by rw [numA_size]; rfl)
  clear hI
  have HM4 := Lib.hid hM4
  have HV4 := Lib.hid hV4
  have HG4 := Lib.hid hg4
  clear hld hV4 hC4 hM4 hg4 HM3 HV3 HG3 HR3
  go_wp2_with fail
  refine him.mono ?_
  rintro _ w5 ⟨rfl, hg5⟩
  have HZ := Lib.hid (Row.new w5 zImg 56)
  obtain ⟨W6, hW6⟩ : ∃ W6, W6 = (w5.alloc (Obj.cells zImg 56)).setRow w5.heap.size (numA 30 I) := ⟨_, rfl⟩
  have HW6 := Lib.hid hW6.symm
  obtain ⟨b9, hb9⟩ : ∃ b, b = w5.heap.size := ⟨_, rfl⟩
  have hg6 : Grows w5 W6 := by rw [hW6]; exact grows_setRow ((Grows.refl _).alloc _) (Nat.le_refl _) _
  have hr6 : Row W6 b9 (numA 30 I) 56 := by rw [hW6, hb9]; exact row_setRow HZ.out _
  have hV6 := (HV4.out.grows hg5).grows hg6
  have hM6 := (HM4.out.grows hg5).grows hg6
  have hg6 := (HG4.out.trans hg5).trans hg6
  have HV6 := Lib.hid hV6
  have HM6 := Lib.hid hM6
  have HR6 := Lib.hid hr6
  have HG6 := Lib.hid hg6
  have HB9 := Lib.hid hb9
  have HNB := Lib.hid (show vb ≠ b9 by have := (HV4.out.grows hg5).row.lt; omega)
  clear him hW6 hb9 hg5 hr6 hV6 hM6 hg6 HV4 HM4 HG4
  cases bl
  · have hsp := (stop_any HV6.out).mono (fun _ _ ht => turned_hit ht (by simp))
    go_wp2_with (first
      | (refine wpList_store_row (by rfl) 56 _ _ (by rfl) w5.heap.size (numA 30 I) (by rfl) (by rfl) 56 _ (by exact HZ.out) HSI.out HSZ.out HOI.out ?_; rw [HW6.out]))
    rw [← HB9.out]
    clear HB9 HZ HW6 HOI HSZ
    refine hsp.mono ?_
    rintro _ w7 ⟨rfl, hV7, hC7⟩
    have HV := Lib.hid hV7
    have HM := Lib.hid (mach_vc HM6.out HV6.out (hC7.weaken (by simp)))
    have HR := Lib.hid (HR6.out.chg hC7 (by simp; exact fun e => HNB.out e.symm))
    have HG := Lib.hid (hC7.to_grows HG6.out (by have := HN.out; simp; omega))
    clear hsp hV7 hC7 HV6 HM6 HR6 HG6
    have hst := state_ok HV.out
    go_wp2_with fail
    refine hst.mono ?_
    rintro _ w8 ⟨rfl, hg8⟩
    have hV8 := HV.out.grows hg8
    have hM8 := HM.out.grows hg8
    have hR8 := HR.out.grows hg8
    have HG8 := Lib.hid (HG.out.trans hg8)
    have hl9 := hR8.lt
    have hro : ∀ w', (∃ g, w' = w8.grow g) → Row w' b9 (numA 30 I) 56 := fun w' ⟨g, hg⟩ => by rw [hg]; exact hR8.grows (Grows.of _ _)
    have HRO := Lib.hid hro
    have q1 := quiet_of (w := w8) (fun W hg => (enter_state 0 0 (hM8.grows hg) (by omega) (by omega) (hV8.grows hg) (by omega)).mono fun _ _ ⟨he, hw⟩ => ⟨he, by rw [hw]; exact Grows.refl _⟩)
    have q2 := quiet_of (w := w8) (fun W hg => (wake_any (hV8.grows hg)).mono fun _ _ ht => turned_miss ht (by omega))
    have q3 := quiet_of (w := w8) (fun W hg => (block_any (hV8.grows hg)).mono fun _ _ ht => turned_miss ht (by omega))
    have q4 := quiet_of (w := w8) (fun W hg => (stop_any (hV8.grows hg)).mono fun _ _ ht => turned_miss ht (by omega))
    have q5 := quiet_of (w := w8) (fun W hg => (leave_state (hM8.grows hg) (by omega) (by omega) (hV8.grows hg) (by omega)).mono fun _ _ ⟨he, hw⟩ => ⟨he, by rw [hw]; exact Grows.refl _⟩)
    have q6 := quiet_of (w := w8) (fun W hg => image_own (hV8.grows hg) (by omega) hq2 (.pointer (some ⟨pm, 0, none⟩)))
    rw [HIM.out] at q6
    have heq := fun W => eql_img I W
    clear hst hV8 hM8 hR8 hro hg8 HV HM HR HG
    go_wp2_with fail
    refine wp_region_grow (by kernel_rfl) (by kernel_rfl) ?_
    repeat (first
      | (go_big_quiet_want; refine quiet_load_row 56 (.tmp 9) (by rfl) b9 (by rfl) 56 (numA 30 I) _ (by exact HRO.out) Try.underlying56 (by rfl) (by exact HSI.out) ?_; go_big_quiet_on; go_simp)
      | go_big_quiet_step ((first | (go_at_call 10; exact q1 _) | (go_at_call 16; exact q2 _) | (go_at_call 14; exact q3 _) | (go_at_call 17; exact q4 _) | (go_at_call 11; exact q5 _) | (go_at_call 24; exact q6 _))))
    refine wpQuiet_nil ?_
    intro gg
    go_wp2_with fail
    go_ret
    exact ⟨rfl, HG8.out.trans (Grows.of _ _)⟩
  · have hbl := (block_any HV6.out).mono (fun _ _ ht => turned_hit ht (by simp))
    go_wp2_with (first
      | (refine wpList_store_row (by rfl) 56 _ _ (by rfl) w5.heap.size (numA 30 I) (by rfl) (by rfl) 56 _ (by exact HZ.out) HSI.out HSZ.out HOI.out ?_; rw [HW6.out]))
    rw [← HB9.out]
    clear HB9 HZ HW6 HOI HSZ
    refine hbl.mono ?_
    rintro _ w7 ⟨rfl, hV7, hC7⟩
    have hM7 := mach_vc HM6.out HV6.out (hC7.weaken (by simp))
    have hR7 := HR6.out.chg hC7 (by simp; exact fun e => HNB.out e.symm)
    have hG7 := hC7.to_grows HG6.out (by have := HN.out; simp; omega)
    have hsp := (stop_any hV7).mono (fun _ _ ht => turned_hit ht (by simp))
    have HV7 := Lib.hid hV7
    have HM7 := Lib.hid hM7
    have HR7 := Lib.hid hR7
    have HG7 := Lib.hid hG7
    clear hbl hV7 hC7 hM7 hR7 hG7 HV6 HM6 HR6 HG6
    go_wp2_with fail
    refine hsp.mono ?_
    rintro _ w7 ⟨rfl, hV7, hC7⟩
    have HV := Lib.hid hV7
    have HM := Lib.hid (mach_vc HM7.out HV7.out (hC7.weaken (by simp)))
    have HR := Lib.hid (HR7.out.chg hC7 (by simp; exact fun e => HNB.out e.symm))
    have HG := Lib.hid (hC7.to_grows HG7.out (by have := HN.out; simp; omega))
    clear hsp hV7 hC7 HV7 HM7 HR7 HG7
    have hst := state_ok HV.out
    go_wp2_with fail
    refine hst.mono ?_
    rintro _ w8 ⟨rfl, hg8⟩
    have hV8 := HV.out.grows hg8
    have hM8 := HM.out.grows hg8
    have hR8 := HR.out.grows hg8
    have HG8 := Lib.hid (HG.out.trans hg8)
    have hl9 := hR8.lt
    have hro : ∀ w', (∃ g, w' = w8.grow g) → Row w' b9 (numA 30 I) 56 := fun w' ⟨g, hg⟩ => by rw [hg]; exact hR8.grows (Grows.of _ _)
    have HRO := Lib.hid hro
    have q1 := quiet_of (w := w8) (fun W hg => (enter_state 0 0 (hM8.grows hg) (by omega) (by omega) (hV8.grows hg) (by omega)).mono fun _ _ ⟨he, hw⟩ => ⟨he, by rw [hw]; exact Grows.refl _⟩)
    have q2 := quiet_of (w := w8) (fun W hg => (wake_any (hV8.grows hg)).mono fun _ _ ht => turned_miss ht (by omega))
    have q3 := quiet_of (w := w8) (fun W hg => (block_any (hV8.grows hg)).mono fun _ _ ht => turned_miss ht (by omega))
    have q4 := quiet_of (w := w8) (fun W hg => (stop_any (hV8.grows hg)).mono fun _ _ ht => turned_miss ht (by omega))
    have q5 := quiet_of (w := w8) (fun W hg => (leave_state (hM8.grows hg) (by omega) (by omega) (hV8.grows hg) (by omega)).mono fun _ _ ⟨he, hw⟩ => ⟨he, by rw [hw]; exact Grows.refl _⟩)
    have q6 := quiet_of (w := w8) (fun W hg => image_own (hV8.grows hg) (by omega) hq2 (.pointer (some ⟨pm, 0, none⟩)))
    rw [HIM.out] at q6
    have heq := fun W => eql_img I W
    clear hst hV8 hM8 hR8 hro hg8 HV HM HR HG
    go_wp2_with fail
    refine wp_region_grow (by kernel_rfl) (by kernel_rfl) ?_
    repeat (first
      | (go_big_quiet_want; refine quiet_load_row 56 (.tmp 9) (by rfl) b9 (by rfl) 56 (numA 30 I) _ (by exact HRO.out) Try.underlying56 (by rfl) (by exact HSI.out) ?_; go_big_quiet_on; go_simp)
      | go_big_quiet_step ((first | (go_at_call 10; exact q1 _) | (go_at_call 16; exact q2 _) | (go_at_call 14; exact q3 _) | (go_at_call 17; exact q4 _) | (go_at_call 11; exact q5 _) | (go_at_call 24; exact q6 _))))
    refine wpQuiet_nil ?_
    intro gg
    go_wp2_with fail
    go_ret
    exact ⟨rfl, HG8.out.trans (Grows.of _ _)⟩
theorem num_list (ns : List Int) (h : ns.length = 30) : (ns.map (Value.int .u64) ++ ([] : List Value)).toArray = numA 30 (fun i => ns.getD i 0) := by
  apply numA_ext
  · simp [h]
  · intro i hi
    simp [List.getD, List.getElem?_eq_getElem (show i < ns.length by omega)]
theorem vcpuStops_walk (ns : List Int) (hl : ns.length = 30) (hw : ∀ x ∈ ns, (Lit.int .u64 x).wf = true) (bl : Bool) (w : World) :
    Calls Try.prog 6 #[.agg (ns.map (Value.int .u64) ++ ([] : List Value)).toArray, .bool bl] w fun r w' => r = .returned (.bool true) ∧ Grows w w' := by
  rw [num_list ns hl]
  refine vcpuStops_law _ ?_ bl w
  have hm : ns.getD 17 0 ∈ ns := by
    rw [List.getD, List.getElem?_eq_getElem (show 17 < ns.length by omega)]
    exact List.getElem_mem _
  have h := hw _ hm
  have e3 : IntKind.u64.min = 0 := by decide
  have e4 : IntKind.u64.max = 18446744073709551615 := by decide
  simp only [Lit.wf, e3, e4, Bool.and_eq_true, decide_eq_true_eq] at h
  exact ⟨by omega, by omega⟩
end Go.Proofs.Ytilefidnjjbboaa
