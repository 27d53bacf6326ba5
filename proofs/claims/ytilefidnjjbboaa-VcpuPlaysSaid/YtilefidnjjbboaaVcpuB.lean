/- What the functions of the package vcpu compute: on, Leave. -/
import Derived.Test.YtilefidnjjbboaaVcpu
import Derived.LaidEql
namespace Go
theorem yieldsIf_binOp {P : Program} {ops : Array Oper} {S : World → Prop} {op : Oper} {a : Act} {bo : BinOp} {t t2 : TypeId} {x y : Operand} {v vx vy : Value} (hw : Region.wanted op (yielded ops a.tmps) = true) (ho : op.op = .binOp bo t x y t2) (hx : a.eval x = vx) (hy : a.eval y = vy) (hge : ∀ w, (eqGuard bo t x y vx vy).run P w = .ok () w)
    (hv : ∀ w, S w → (binOp bo t vx vy).run P w = .ok v w) : YieldsIf P ops S op v a :=
  .inl ⟨hw, fun w hw' => by
    unfold execOp
    simp only [ho, hx, hy]
    have := hv w hw'
    simp only [Sem.run_bind, hge, this, Result.andThen_ok, Sem.run_pure]⟩
end Go
namespace Go.Proofs.Ytilefidnjjbboaa
open Go Go.RowKit
set_option linter.unusedSimpArgs false
set_option linter.unusedVariables false
theorem eq_ptr (d : Nat) {x y : Nat} {w : World} {ra rb : Nat → Int} (hx : File w x ra) (hy : File w y rb) : (Op.equalIn (d + 1) 59 (.pointer (some ⟨x, 0, none⟩)) (.pointer (some ⟨y, 0, none⟩))).run Try.prog w = .ok (x == y) w := by
  have h := Try.underlying59
  have h1 : w.heap[x]? = some (.cells (fileA ra) 110 (0, 0)) := hx
  have h2 : w.heap[y]? = some (.cells (fileA rb) 110 (0, 0)) := hy
  by_cases e : x = y
  · subst e
    simp [Op.equalIn, run_underlying h, run_sameAddr_same]
  · have := run_sameAddr_other (P := Try.prog) (w := w) (a := ⟨x, 0, none⟩) (b := ⟨y, 0, none⟩) (by simp [e]) h1 h2
    simp [Op.equalIn, run_underlying h, this, e]
theorem eql_owner (g g' : Int) (fb fb' : Nat) : ∃ bb : Bool, (∀ w ra rb, File w fb' ra → File w fb rb → (binOp .eql 112 (.agg #[.int .i64 g', .pointer (some ⟨fb', 0, none⟩)]) (.agg #[.int .i64 g, .pointer (some ⟨fb, 0, none⟩)])).run Try.prog w = .ok (.bool bb) w) ∧ (bb = true ↔ g' = g ∧ fb' = fb) := by
  by_cases h1 : g' = g
  · subst h1
    by_cases h2 : fb' = fb
    · subst h2
      exact ⟨true, fun w ra rb ha hb => by simp [go_sem, eq_ptr _ ha hb], by simp⟩
    · exact ⟨false, fun w ra rb ha hb => by simp [go_sem, eq_ptr _ ha hb, h2], by simp [h2]⟩
  · exact ⟨false, fun w ra rb ha hb => by simp [go_sem, eq_ptr _ ha hb, h1], by simp [h1]⟩
set_option maxRecDepth 100000 in
set_option maxHeartbeats 4000000 in
theorem on_some {w : World} {pm me N F c vb fb fb' : Nat} {cb : Nat → Nat} {st : Nat → Option (List Value)} {g ix s g' rt : Int} {R R' : List Value} {r : Nat → Int} (h : MachAt w pm me N F cb st) (hN : N ≤ 8) (hc : c < N) (hst : st c = some (cxL g' R' fb' rt)) (hR' : RegL R') (hv : VcAt w vb fb g ix s c R r) {bb : Bool}
    {r' : Nat → Int} (hf' : File w fb' r') (hbb : ∀ w ra rb, File w fb' ra → File w fb rb → (binOp .eql 112 (.agg #[.int .i64 g', .pointer (some ⟨fb', 0, none⟩)]) (.agg #[.int .i64 g, .pointer (some ⟨fb, 0, none⟩)])).run Try.prog w = .ok (.bool bb) w) :
    Calls Try.prog 33 #[.pointer (some ⟨vb, 0, none⟩), .pointer (some ⟨pm, 0, none⟩)] w fun e w' => e = .returned (.tuple #[.agg (cxL g' R' fb' rt).toArray, .bool bb]) ∧ Grows w w' := by
  have hcx := cxL_ok (g := g') (fb := fb') (rt := rt) hR'
  go_enter Try.func33, Try.ntmps33
  obtain ⟨W1, hW1⟩ : ∃ W1, W1 = w.alloc (Obj.cells cx0.toArray 61) := ⟨_, rfl⟩
  obtain ⟨b4, hb4⟩ : ∃ b, b = w.heap.size := ⟨_, rfl⟩
  have HW1 := Lib.hid hW1.symm
  have hg1 : Grows w W1 := by rw [hW1]; exact (Grows.refl _).alloc _
  have hV1 := hv.grows hg1
  have hgt := get_some (h.grows hg1) hN hc hst hcx
  have HR4 : Hid (Row W1 b4 cx0.toArray 61) := Lib.hid (by rw [hW1]; exact Row.new_at _ _ _ hb4)
  obtain ⟨k0, k2, k3, k22⟩ := hv.cells
  have lv := hv.row.lt
  go_wp2_with fail
  show Calls _ _ _ (w.alloc (Obj.cells cx0.toArray 61)) _
  rw [HW1.out, ← hb4]
  clear k0 k2 k3 k22 lv hW1
  refine hgt.mono ?_
  rintro _ w2 ⟨rfl, hg2⟩
  have hV2 := hV1.grows hg2
  have HR42 := Lib.hid (HR4.out.grows hg2)
  have HG2 := Lib.hid (hg1.trans hg2)
  have HFF2 : Hid (File w2 fb' r') := Lib.hid (Row.grows (Row.grows hf' hg1) hg2)
  have HB4 := Lib.hid (show w.heap.size ≤ b4 by omega)
  have HNE := Lib.hid (show vb ≠ b4 ∧ fb ≠ b4 ∧ fb' ≠ b4 ∧ w2.heap.size ≠ b4 by
    have h1 := hv.row.lt
    have h2 := Row.lt (show Row w fb (fileA r) 110 from hv.file)
    have h3 := Row.lt (show Row w fb' (fileA r') 110 from hf')
    have h4 := HR42.out.lt
    omega)
  clear hgt hg2 hg1 hV1 hb4 h hv
  obtain ⟨cx, hcxe⟩ : ∃ cx, cx = cxL g' R' fb' rt := ⟨_, rfl⟩
  rw [← hcxe] at hcx ⊢
  have HCXE := Lib.hid hcxe
  obtain ⟨p0, p19, p20⟩ := cxL_at (g := g') (fb := fb') (rt := rt) hR'
  rw [← hcxe] at p0 p19 p20
  clear hcxe
  have HIA := Lib.hid (show (Try.prog.info? 61).map (·.size) = some cx.toArray.size by rw [List.size_toArray, hcx.1]; kernel_rfl)
  have HS := Lib.hid (show cx0.toArray.size = cx.toArray.size by rw [List.size_toArray, List.size_toArray, hcx.1]; rfl)
  have HO := Lib.hid hcx.2
  have HZ := Lib.hid (Row.new w2 cx0.toArray 61)
  obtain ⟨W3, hW3⟩ : ∃ W3, W3 = (w2.alloc (Obj.cells #[.int .i64 0, .int .u64 0, .int .u64 0, .int .u64 0, .int .u64 0, .int .u64 0, .int .u64 0, .int .u64 0, .int .u64 0, .int .u64 0, .int .u64 0, .int .u64 0, .int .u64 0, .int .u64 0, .int .u64 0, .int .u64 0, .int .u64 0, .int .u64 0, .int .i64 0, .pointer none, .int .i64 0] 61)).setRow w2.heap.size cx.toArray := ⟨_, rfl⟩
  have HW3 := Lib.hid hW3.symm
  obtain ⟨b6, hb6⟩ : ∃ b, b = w2.heap.size := ⟨_, rfl⟩
  have hg3 : Grows w2 W3 := by rw [hW3]; exact grows_setRow ((Grows.refl _).alloc _) (Nat.le_refl _) _
  have HR6 : Hid (Row W3 b6 cx.toArray 61) := Lib.hid (by rw [hW3, hb6]; exact row_setRow HZ.out cx.toArray)
  have HV3 := Lib.hid (hV2.grows hg3)
  have HFF3 : Hid (File W3 fb' r') := Lib.hid (Row.grows HFF2.out hg3)
  have HR43 := Lib.hid (HR42.out.grows hg3)
  have HG3 := Lib.hid (HG2.out.trans hg3)
  clear hW3 hg3 hV2 HR42 HG2 hcx
  go_wp2_with (first
    | (refine wpList_store_row (by rfl) 61 _ _ (by rfl) w2.heap.size cx.toArray (by rfl) (by rfl) 61 _ (by exact HZ.out) HIA.out HS.out HO.out ?_; rw [HW3.out]))
  rw [← hb6]
  rw [← hb6] at HNE
  clear HZ HW3 hb6
  have hSS : ∀ w', Grows W3 w' → (VcAt w' vb fb g ix s c R r ∧ File w' fb' r' ∧ Row w' b6 cx.toArray 61) := fun w' hg => ⟨HV3.out.grows hg, Row.grows HFF3.out hg, HR6.out.grows hg⟩
  have HSS := Lib.hid hSS
  have HBB := Lib.hid hbb
  have HP0 := Lib.hid p0
  have HP19 := Lib.hid p19
  clear hSS hbb p0 p19 p20
  refine wp_region_held_drew (S := fun w' => VcAt w' vb fb g ix s c R r ∧ File w' fb' r' ∧ Row w' b6 cx.toArray 61) (by kernel_rfl) (HSS.out _ ((Grows.refl _).drew)) (fun hHeld => ?_)
  refine wpAnyH_take (i := 1) (v := ?_) rfl (by kernel_rfl) (by kernel_rfl) (by kernel_rfl) (fun _ _ _ h => h) (Or.inl ⟨by rfl, ?_⟩) (by assumption) ?_
  rotate_left
  · intro w hSw
    go_simp
    try with_reducible rfl
  simp only [List.getElem_toArray, List.getElem_cons_succ, List.getElem_cons_zero, Act.put, List.setIfInBounds_toArray, List.set_cons_zero, List.set_cons_succ]
  refine wpAnyH_take (i := 2) (v := ?_) rfl (by kernel_rfl) (by kernel_rfl) (by kernel_rfl) (fun _ _ _ h => h) (Or.inl ⟨by rfl, ?_⟩) (by assumption) ?_
  rotate_left
  · intro w hSw
    go_simp
    try with_reducible rfl
  simp only [List.getElem_toArray, List.getElem_cons_succ, List.getElem_cons_zero, Act.put, List.setIfInBounds_toArray, List.set_cons_zero, List.set_cons_succ]
  refine wpAnyH_take (i := 0) (v := .agg cx.toArray) rfl (by kernel_rfl) (by kernel_rfl) (by kernel_rfl) (fun _ _ _ h => h) (yieldsIf_load_mid (by rfl) 61 _ (by rfl) b6 0 (by rfl) cx _ (fun w hw => Row.range hw.2.2 (fun j v hv => by rw [Nat.zero_add, List.getElem?_toArray]; exact hv)) Try.underlying61 (by rfl) (by have := HIA.out; rw [List.size_toArray] at this; exact this)) (by assumption) ?_
  simp only [List.getElem_toArray, List.getElem_cons_succ, List.getElem_cons_zero, Act.put, List.setIfInBounds_toArray, List.set_cons_zero, List.set_cons_succ]
  refine wpAnyH_take (i := 3) (v := ?_) rfl (by kernel_rfl) (by kernel_rfl) (by kernel_rfl) (fun _ _ _ h => h) (Or.inl ⟨by rfl, ?_⟩) (by assumption) ?_
  rotate_left
  · intro w hSw
    go_simp
    try with_reducible rfl
  simp only [List.getElem_toArray, List.getElem_cons_succ, List.getElem_cons_zero, Act.put, List.setIfInBounds_toArray, List.set_cons_zero, List.set_cons_succ]
  refine wpAnyH_take (i := 4) (v := ?_) rfl (by kernel_rfl) (by kernel_rfl) (by kernel_rfl) (fun _ _ _ h => h) (Or.inl ⟨by rfl, ?_⟩) (by assumption) ?_
  rotate_left
  · intro w hSw
    obtain ⟨hv, hf, h6⟩ := hSw
    obtain ⟨q0, q2, q3, q22⟩ := VcAt.cells hv
    have qe := HBB.out w _ _ hf hv.file
    have q60 : w.cell? ⟨b6, 0, none⟩ = some (.int .i64 g') := by rw [h6.cell]; exact HP0.out
    have q69 : w.cell? ⟨b6, 19, none⟩ = some (.pointer (some ⟨fb', 0, none⟩)) := by rw [h6.cell]; exact HP19.out
    go_simp
    try with_reducible rfl
  simp only [List.getElem_toArray, List.getElem_cons_succ, List.getElem_cons_zero, Act.put, List.setIfInBounds_toArray, List.set_cons_zero, List.set_cons_succ]
  refine wpAnyH_take (i := 5) (v := ?_) rfl (by kernel_rfl) (by kernel_rfl) (by kernel_rfl) (fun _ _ _ h => h) (Or.inl ⟨by rfl, ?_⟩) (by assumption) ?_
  rotate_left
  · intro w hSw
    go_simp
    try with_reducible rfl
  simp only [List.getElem_toArray, List.getElem_cons_succ, List.getElem_cons_zero, Act.put, List.setIfInBounds_toArray, List.set_cons_zero, List.set_cons_succ]
  refine wpAnyH_take (i := 6) (v := ?_) rfl (by kernel_rfl) (by kernel_rfl) (by kernel_rfl) (fun _ _ _ h => h) (Or.inl ⟨by rfl, ?_⟩) (by assumption) ?_
  rotate_left
  · intro w hSw
    obtain ⟨hv, hf, h6⟩ := hSw
    obtain ⟨q0, q2, q3, q22⟩ := VcAt.cells hv
    have qe := HBB.out w _ _ hf hv.file
    have q60 : w.cell? ⟨b6, 0, none⟩ = some (.int .i64 g') := by rw [h6.cell]; exact HP0.out
    have q69 : w.cell? ⟨b6, 19, none⟩ = some (.pointer (some ⟨fb', 0, none⟩)) := by rw [h6.cell]; exact HP19.out
    go_simp
    try with_reducible rfl
  simp only [List.getElem_toArray, List.getElem_cons_succ, List.getElem_cons_zero, Act.put, List.setIfInBounds_toArray, List.set_cons_zero, List.set_cons_succ]
  refine wpAnyH_take (i := 7) (v := ?_) rfl (by kernel_rfl) (by kernel_rfl) (by kernel_rfl) (fun _ _ _ h => h) (Or.inl ⟨by rfl, ?_⟩) (by assumption) ?_
  rotate_left
  · intro w hSw
    go_simp
    try with_reducible rfl
  simp only [List.getElem_toArray, List.getElem_cons_succ, List.getElem_cons_zero, Act.put, List.setIfInBounds_toArray, List.set_cons_zero, List.set_cons_succ]
  refine wpAnyH_take (i := 8) (v := ?_) rfl (by kernel_rfl) (by kernel_rfl) (by kernel_rfl) (fun _ _ _ h => h) (Or.inl ⟨by rfl, ?_⟩) (by assumption) ?_
  rotate_left
  · intro w hSw
    go_simp
    try with_reducible rfl
  simp only [List.getElem_toArray, List.getElem_cons_succ, List.getElem_cons_zero, Act.put, List.setIfInBounds_toArray, List.set_cons_zero, List.set_cons_succ]
  refine wpAnyH_take (i := 9) (v := ?_) rfl (by kernel_rfl) (by kernel_rfl) (by kernel_rfl) (fun _ _ _ h => h) (Or.inl ⟨by rfl, ?_⟩) (by assumption) ?_
  rotate_left
  · intro w hSw
    go_simp
    try with_reducible rfl
  simp only [List.getElem_toArray, List.getElem_cons_succ, List.getElem_cons_zero, Act.put, List.setIfInBounds_toArray, List.set_cons_zero, List.set_cons_succ]
  refine wpAnyH_take (i := 10) (v := ?_) rfl (by kernel_rfl) (by kernel_rfl) (by kernel_rfl) (fun _ _ _ h => h) (Or.inl ⟨by rfl, ?_⟩) (by assumption) ?_
  rotate_left
  · intro w hSw
    go_simp
    try with_reducible rfl
  simp only [List.getElem_toArray, List.getElem_cons_succ, List.getElem_cons_zero, Act.put, List.setIfInBounds_toArray, List.set_cons_zero, List.set_cons_succ]
  refine wpAnyH_take (i := 11) (v := ?_) rfl (by kernel_rfl) (by kernel_rfl) (by kernel_rfl) (fun _ _ _ h => h) (Or.inl ⟨by rfl, ?_⟩) (by assumption) ?_
  rotate_left
  · intro w hSw
    obtain ⟨hv, hf, h6⟩ := hSw
    obtain ⟨q0, q2, q3, q22⟩ := VcAt.cells hv
    have qe := HBB.out w _ _ hf hv.file
    have q60 : w.cell? ⟨b6, 0, none⟩ = some (.int .i64 g') := by rw [h6.cell]; exact HP0.out
    have q69 : w.cell? ⟨b6, 19, none⟩ = some (.pointer (some ⟨fb', 0, none⟩)) := by rw [h6.cell]; exact HP19.out
    go_simp
    try with_reducible rfl
  simp only [List.getElem_toArray, List.getElem_cons_succ, List.getElem_cons_zero, Act.put, List.setIfInBounds_toArray, List.set_cons_zero, List.set_cons_succ]
  refine wpAnyH_take (i := 12) (v := ?_) rfl (by kernel_rfl) (by kernel_rfl) (by kernel_rfl) (fun _ _ _ h => h) (Or.inl ⟨by rfl, ?_⟩) (by assumption) ?_
  rotate_left
  · intro w hSw
    go_simp
    try with_reducible rfl
  simp only [List.getElem_toArray, List.getElem_cons_succ, List.getElem_cons_zero, Act.put, List.setIfInBounds_toArray, List.set_cons_zero, List.set_cons_succ]
  refine wpAnyH_take (i := 13) (v := ?_) rfl (by kernel_rfl) (by kernel_rfl) (by kernel_rfl) (fun _ _ _ h => h) (Or.inl ⟨by rfl, ?_⟩) (by assumption) ?_
  rotate_left
  · intro w hSw
    go_simp
    try with_reducible rfl
  simp only [List.getElem_toArray, List.getElem_cons_succ, List.getElem_cons_zero, Act.put, List.setIfInBounds_toArray, List.set_cons_zero, List.set_cons_succ]
  refine wpAnyH_take (i := 14) (v := ?_) rfl (by kernel_rfl) (by kernel_rfl) (by kernel_rfl) (fun _ _ _ h => h) (Or.inl ⟨by rfl, ?_⟩) (by assumption) ?_
  rotate_left
  · intro w hSw
    go_simp
    try with_reducible rfl
  simp only [List.getElem_toArray, List.getElem_cons_succ, List.getElem_cons_zero, Act.put, List.setIfInBounds_toArray, List.set_cons_zero, List.set_cons_succ]
  refine wpAnyH_take (i := 15) (v := ?_) rfl (by kernel_rfl) (by kernel_rfl) (by kernel_rfl) (fun _ _ _ h => h) (Or.inl ⟨by rfl, ?_⟩) (by assumption) ?_
  rotate_left
  · intro w hSw
    obtain ⟨hv, hf, h6⟩ := hSw
    obtain ⟨q0, q2, q3, q22⟩ := VcAt.cells hv
    have qe := HBB.out w _ _ hf hv.file
    have q60 : w.cell? ⟨b6, 0, none⟩ = some (.int .i64 g') := by rw [h6.cell]; exact HP0.out
    have q69 : w.cell? ⟨b6, 19, none⟩ = some (.pointer (some ⟨fb', 0, none⟩)) := by rw [h6.cell]; exact HP19.out
    go_simp
    try with_reducible rfl
  simp only [List.getElem_toArray, List.getElem_cons_succ, List.getElem_cons_zero, Act.put, List.setIfInBounds_toArray, List.set_cons_zero, List.set_cons_succ]
  refine wpAnyH_take (i := 16) (v := ?_) rfl (by kernel_rfl) (by kernel_rfl) (by kernel_rfl) (fun _ _ _ h => h) (Or.inl ⟨by rfl, ?_⟩) (by assumption) ?_
  rotate_left
  · intro w hSw
    go_simp
    try with_reducible rfl
  simp only [List.getElem_toArray, List.getElem_cons_succ, List.getElem_cons_zero, Act.put, List.setIfInBounds_toArray, List.set_cons_zero, List.set_cons_succ]
  refine wpAnyH_take (i := 17) (v := .bool bb) rfl (by kernel_rfl) (by kernel_rfl) (by kernel_rfl) (fun _ _ _ h => h) (yieldsIf_binOp (by rfl) (by rfl) (by rfl) (by rfl) (fun w => by first | rfl | kernel_rfl | (simp [eqGuard, go_sem]; done)) (fun w hw => HBB.out w _ _ hw.2.1 hw.1.file)) (by assumption) ?_
  simp only [List.getElem_toArray, List.getElem_cons_succ, List.getElem_cons_zero, Act.put, List.setIfInBounds_toArray, List.set_cons_zero, List.set_cons_succ]
  refine wpAnyH_take (i := 18) (v := ?_) rfl (by kernel_rfl) (by kernel_rfl) (by kernel_rfl) (fun _ _ _ h => h) (Or.inl ⟨by rfl, ?_⟩) (by assumption) ?_
  rotate_left
  · intro w hSw
    go_simp
    try with_reducible rfl
  simp only [List.getElem_toArray, List.getElem_cons_succ, List.getElem_cons_zero, Act.put, List.setIfInBounds_toArray, List.set_cons_zero, List.set_cons_succ]
  refine wpAnyH_ready (rs := [19]) (by kernel_rfl) (by simp) ?_
  refine AllReadyH.cons rfl (fun K hK => ?_) AllReadyH.nil
  rw [if_pos (by rfl)]
  have hth : (World.drew W3).there b4 0 cx.toArray.size := Row.thereAt (HR43.out.grows ((Grows.refl _).drew)) (by rw [← HS.out]; omega)
  refine wp_store_mid 61 _ _ (by rfl) b4 0 cx.toArray (by rfl) (by rfl) hth HIA.out HO.out ?_
  have hc4 : Chg [b4] W3 ((World.drew W3).setCells b4 0 cx.toArray.toList) := Chg.setCells (Or.inl (by simp)) _ _ _ (Chg.of_grows ((Grows.refl _).drew))
  have hn := HNE.out
  have hS4 : VcAt ((World.drew W3).setCells b4 0 cx.toArray.toList) vb fb g ix s c R r ∧ File ((World.drew W3).setCells b4 0 cx.toArray.toList) fb' r' ∧ Row ((World.drew W3).setCells b4 0 cx.toArray.toList) b6 cx.toArray 61 :=
    ⟨HV3.out.chg hc4 (by simp; omega), Row.chg HFF3.out hc4 (by simp; omega), HR6.out.chg hc4 (by simp; omega)⟩
  have hr4 : Row ((World.drew W3).setCells b4 0 cx.toArray.toList) b4 cx.toArray 61 := by
    have h1 := Row.puts cx.toArray.toList 0 _ _ (HR43.out.grows ((Grows.refl W3).drew))
    have e : putA cx0.toArray 0 cx.toArray.toList = cx.toArray := by
      have := putA_mid [] cx0 [] cx (by have := HS.out; simpa using this.symm)
      simpa using this
    rw [e] at h1
    exact h1
  have HR4F := Lib.hid hr4
  have HGF := Lib.hid (hc4.to_grows HG3.out (by simp; exact HB4.out))
  simp only [List.getElem_toArray, List.getElem_cons_succ, List.getElem_cons_zero, Act.put, List.setIfInBounds_toArray, List.set_cons_zero, List.set_cons_succ]
  refine hK.out _ _ hS4 (fun hHeld4 => ?_)
  clear hK K
  refine wpAnyH_take (i := 20) (v := ?_) rfl (by kernel_rfl) (by kernel_rfl) (by kernel_rfl) (fun _ _ _ h => h) (Or.inl ⟨by rfl, ?_⟩) (by assumption) ?_
  rotate_left
  · intro w hSw
    go_simp
    try with_reducible rfl
  simp only [List.getElem_toArray, List.getElem_cons_succ, List.getElem_cons_zero, Act.put, List.setIfInBounds_toArray, List.set_cons_zero, List.set_cons_succ]
  refine wpAnyH_done (by kernel_rfl) ?_ _
  go_wp2_with fail
  exact bodyPost_ret (results_row_tmp (by rfl) _ _ b4 61 cx.toArray _ (by rfl) HR4F.out Try.underlying61 (by rfl) HIA.out) rfl ⟨by rw [HCXE.out]; rfl, HGF.out⟩
end Go.Proofs.Ytilefidnjjbboaa
