/- The walk of VcpuImages. -/
import Derived.Test.YtilefidnjjbboaaVcpuStopsW
namespace Go.Proofs.Ytilefidnjjbboaa
open Go Go.RowKit
set_option linter.unusedSimpArgs false
set_option linter.unusedVariables false
theorem neq_ptr {x : Nat} {w : World} {ra : Nat → Int} (hx : File w x ra) : (binOp .neq 59 (.pointer (some ⟨x, 0, none⟩)) (.pointer (some ⟨x, 0, none⟩))).run Try.prog w = .ok (.bool false) w := by
  simp only [binOp]
  simp [Op.equal, Op.maxDepth, eq_ptr _ hx hx]
set_option maxRecDepth 100000 in
set_option maxHeartbeats 4000000 in
theorem vcpuImages_law (l : Nat → Int) (hl0 : 0 ≤ l 17 ∧ l 17 < 18446744073709551616) (core : Int) (w : World) :
    Calls Try.prog 5 #[.agg (numA 30 l), .int .i64 core] w fun r w' => r = .returned (.bool true) ∧ Grows w w' := by
  obtain ⟨q, hq, hq2⟩ : ∃ q, bits .and .u64 (l 17) 1 = q ∧ (q = 0 ∨ q = 1) := by
    have e : bits .and .u64 (l 17) 1 = l 17 % 2 := and_mask_u64 (n := 1) hl0.1 hl0.2 (by omega)
    exact ⟨_, e, by omega⟩
  clear hl0
  obtain ⟨k, hk, hk2⟩ : ∃ k : Nat, bits .and .i64 core 1 = k ∧ k < 2 := by
    have e : bits .and .i64 core 1 = core % 2 := and_mask_i64 (n := 1) (by omega)
    rw [e]
    exact ⟨(core % 2).toNat, by omega, by omega⟩
  go_enter Try.func5, Try.ntmps5
  go_wp2_with fail
  obtain ⟨W1, hW1⟩ : ∃ W1, W1 = w.alloc (Obj.cells (numA 30 l) 56) := ⟨_, rfl⟩
  obtain ⟨b2, hb2⟩ : ∃ b, b = w.heap.size := ⟨_, rfl⟩
  rw [← hW1, ← hb2]
  have hg1 : Grows w W1 := by rw [hW1]; exact (Grows.refl _).alloc _
  have hr2 : Row W1 b2 (numA 30 l) 56 := by rw [hW1]; exact Row.new_at _ _ _ hb2
  have HB2 := Lib.hid (show w.heap.size ≤ b2 by omega)
  clear hW1 hb2
  refine (machnew_ok W1 (N := 2) (F := 1) (by omega) (by omega) (by omega) (by omega)).mono ?_
  rintro _ w2 ⟨pm, me, cb, rfl, hM2, hg2, hpm, hcb⟩
  go_wp2_with fail
  refine (vnew_ok w2 (g := 3) (ix := 2) 0 (by omega) (by omega) (by omega) (by omega)).mono ?_
  rintro _ w3 ⟨vb, fb, rfl, hV3, hg3, hvb, hfb⟩
  have hM3 := hM2.grows hg3
  have hr3 := (hr2.grows hg2).grows hg3
  have hg3 := (hg1.trans hg2).trans hg3
  have hl2 := hr2.lt
  have hs2 := hg2.size
  have hs1 := hg1.size
  have HN := Lib.hid (show b2 < vb ∧ b2 < fb ∧ w.heap.size ≤ vb ∧ w.heap.size ≤ fb ∧ w.heap.size ≤ cb k ∧ b2 < cb k by have := HB2.out; have := hcb k hk2; omega)
  have hld := load_ok hV3 (by omega) l hq hq2
  have HI := Lib.hid (size_img l)
  have HR3 := Lib.hid hr3
  have HM3 := Lib.hid hM3
  have HV3 := Lib.hid hV3
  have HG3 := Lib.hid hg3
  clear hM2 hg2 hpm hcb hV3 hg3 hvb hfb hM3 hr3 hg1 hr2 hl2 hs2 hs1
  go_wp2_with (first
    | (refine wpList_wanted_load_row (by rfl) 56 _ (by rfl) b2 (by rfl) 56 (numA 30 l) (0, 0) _ (by exact HR3.out) Try.underlying56 rfl HI.out ?_))
  refine hld.mono ?_
  rintro _ w4 ⟨rfl, hV4, hC4⟩
  have hM4 := mach_vc HM3.out HV3.out hC4
  have hg4 : Grows w w4 := hC4.to_grows HG3.out (by have := HN.out; simp; omega)
  have hr4 := HR3.out.chg hC4 (by have := HN.out; simp; omega)
  have HM4 := Lib.hid hM4
  have HV4 := Lib.hid hV4
  have HG4 := Lib.hid hg4
  have HR4 := Lib.hid hr4
  have HZ := Lib.hid (Row.new w4 zImg 56)
  have HSZ := Lib.hid (show zImg.size = (numA 30 l).size by rw [numA_size]; rfl)
  have HOL := Lib.hid (numA_one 30 l)
  obtain ⟨W5, hW5⟩ : ∃ W5, W5 = (w4.alloc (Obj.cells zImg 56)).setRow w4.heap.size (numA 30 l) := ⟨_, rfl⟩
  have HW5 := Lib.hid hW5.symm
  obtain ⟨b9, hb9⟩ : ∃ b, b = w4.heap.size := ⟨_, rfl⟩
  have hg5 : Grows w4 W5 := by rw [hW5]; exact grows_setRow ((Grows.refl _).alloc _) (Nat.le_refl _) _
  have hr5 : Row W5 b9 (numA 30 l) 56 := by rw [hW5, hb9]; exact row_setRow HZ.out _
  have hr25 := hr4.grows hg5
  have k0 : W5.cell? ⟨b9, 0, none⟩ = some (.int .u64 (l 0)) := by rw [hr5.cell, numA_get l (by omega)]
  have k17 : W5.cell? ⟨b9, 17, none⟩ = some (.int .u64 (l 17)) := by rw [hr5.cell, numA_get l (by omega)]
  have k29 : W5.cell? ⟨b9, 29, none⟩ = some (.int .u64 (l 29)) := by rw [hr5.cell, numA_get l (by omega)]
  have k217 : W5.cell? ⟨b2, 17, none⟩ = some (.int .u64 (l 17)) := by rw [hr25.cell, numA_get l (by omega)]
  have f0 := hr5.frozen 0
  have f17 := hr5.frozen 17
  have f29 := hr5.frozen 29
  have hn29 : b2 ≠ b9 := by have := hr4.lt; omega
  have hr6 := ((hr5.putNum 0 0).putNum 17 q).putNum 29 2
  obtain ⟨I, hI⟩ : ∃ I, I = imgF (updR l 0 0) (l 16) q (loadR (updR (fun _ => 0) 11 2) l) := ⟨_, rfl⟩
  have e6 : numA 30 (fun j => if j = 29 then 2 else if j = 17 then q else if j = 0 then 0 else l j) = numA 30 I := numA_congr (fun j hj => by
    rw [hI]; unfold imgF loadR updR
    by_cases e1 : j = 29
    · subst e1; rfl
    · by_cases e2 : j = 17
      · subst e2; rfl
      · by_cases e3 : j = 0
        · subst e3; rfl
        · rw [if_neg e1, if_neg e2, if_neg e3]
          by_cases e4 : j < 16
          · rw [if_pos e4]
          · rw [if_neg e4]
            by_cases e5 : j = 16
            · rw [if_pos e5, e5]
            · rw [if_neg e5, if_neg e2, if_pos (by omega)]; congr 1; omega)
  rw [e6] at hr6
  obtain ⟨W6, hW6⟩ : ∃ W6, W6 = ((W5.setCell ⟨b9, 0, none⟩ (.int .u64 0)).setCell ⟨b9, 17, none⟩ (.int .u64 q)).setCell ⟨b9, 29, none⟩ (.int .u64 2) := ⟨_, rfl⟩
  rw [← hW6] at hr6
  have HW6 := Lib.hid hW6.symm
  have hc6 : Chg [b9] W5 W6 := by
    rw [hW6]
    exact (((Chg.refl _ _).setCell (Or.inl (by simp)) _ _).setCell (Or.inl (by simp)) _ _).setCell (Or.inl (by simp)) _ _
  have hl4 := hr4.lt
  have hlv := hV4.row.lt
  have hlf := Row.lt (show Row w4 fb (fileA _) 110 from hV4.file)
  have hg46 : Grows w4 W6 := hc6.to_grows hg5 (by simp; omega)
  have HV6 := Lib.hid (hV4.grows hg46)
  have HM6 := Lib.hid (hM4.grows hg46)
  have HR6 := Lib.hid hr6
  have HR26 := Lib.hid (hr4.grows hg46)
  have HG6 := Lib.hid (hg4.trans hg46)
  have HB9 := Lib.hid hb9
  have HI0 := Lib.hid hI
  have HNB := Lib.hid (show vb < b9 ∧ fb < b9 ∧ b2 < b9 ∧ cb k < b9 by have := (hM4.cores k hk2).lt; omega)
  clear hld hV4 hC4 hM4 hg4 hr4 HM3 HV3 HG3 HR3 hW5 hb9 hg5 hr5 hr25 hI e6 hr6 hW6 hc6 hl4 hlv hlf hg46 HM4 HV4 HG4
  go_wp2_with (first
    | (refine wpList_load_row (by rfl) 56 _ (by rfl) b2 (by rfl) 56 (numA 30 l) (0, 0) _ (by exact HR4.out) Try.underlying56 rfl HI.out ?_)
    | (refine wpList_store_row (by rfl) 56 _ _ (by rfl) w4.heap.size (numA 30 l) (by rfl) (by rfl) 56 _ (by exact HZ.out) HI.out HSZ.out HOL.out ?_; rw [HW5.out]; rw [← HB9.out]))
  rw [HW6.out]
  clear HW6 HW5 HZ HB9 HSZ HOL k0 k17 k29 k217 f0 f17 f29 hn29 HR4
  have HV6b := HV6.out
  have him1 := image_own (HV6.out.grows ((Grows.refl W6).drew)) (by omega) hq2 (.pointer (some ⟨pm, 0, none⟩))
  rw [← HI0.out] at him1
  refine wp_region_held_drew (S := fun w' => Row w' b9 (numA 30 I) 56 ∧ Row w' b2 (numA 30 l) 56) (by kernel_rfl) ⟨HR6.out.grows ((Grows.refl _).drew), HR26.out.grows ((Grows.refl _).drew)⟩ (fun hHeld => ?_)
  refine wpAnyH_take (i := 0) (v := ?_) rfl (by kernel_rfl) (by kernel_rfl) (by kernel_rfl) (fun _ _ _ h => h) (Or.inl ⟨by rfl, ?_⟩) (by assumption) ?_
  rotate_left
  · intro w hSw
    go_simp
    try with_reducible rfl
  simp only [List.getElem_toArray, List.getElem_cons_succ, List.getElem_cons_zero, Act.put, List.setIfInBounds_toArray, List.set_cons_zero, List.set_cons_succ]
  refine wpAnyH_take (i := 1) (v := ?_) rfl (by kernel_rfl) (by kernel_rfl) (by kernel_rfl) (fun _ _ _ h => h) (Or.inl ⟨by rfl, ?_⟩) (by assumption) ?_
  rotate_left
  · intro w hSw
    go_simp
    try with_reducible rfl
  simp only [List.getElem_toArray, List.getElem_cons_succ, List.getElem_cons_zero, Act.put, List.setIfInBounds_toArray, List.set_cons_zero, List.set_cons_succ]
  refine wpAnyH_take (i := 3) (v := .agg (numA 30 I)) rfl (by kernel_rfl) (by kernel_rfl) (by kernel_rfl) (fun _ _ _ h => h) (yieldsIf_load_mid (by rfl) 56 _ (by rfl) b9 0 (by rfl) (numA 30 I).toList _ (fun w hw => Row.range (hw.1) (fun j v hv => by rw [Nat.zero_add, ← Array.getElem?_toList]; exact hv)) Try.underlying56 (by rfl) (by rw [Array.length_toList]; exact size_img I)) (by assumption) ?_
  simp only [List.getElem_toArray, List.getElem_cons_succ, List.getElem_cons_zero, Act.put, List.setIfInBounds_toArray, List.set_cons_zero, List.set_cons_succ]
  refine wpAnyH_ready (rs := [2]) (by kernel_rfl) (by simp) ?_
  refine AllReadyH.cons rfl (fun K hK => ?_) AllReadyH.nil
  go_simp
  refine him1.mono ?_
  rintro _ w7 ⟨rfl, hg7⟩
  have hg7' := ((Grows.refl W6).drew).trans hg7
  have hS7 := And.intro (HR6.out.grows hg7') (HR26.out.grows hg7')
  have hen := enter_ok (c := k) (rt := 0) (HM6.out.grows hg7') (by omega) (by omega) (by omega) hk2 rfl (HV6.out.grows hg7') (by omega) (by omega) (by omega)
  have HG7 := Lib.hid (HG6.out.trans hg7')
  have HM7 := Lib.hid (HM6.out.grows hg7')
  have HV7 := Lib.hid (HV6.out.grows hg7')
  clear him1 hg7 hg7'
  go_wp2_with fail
  refine hK.out _ _ hS7 (fun hHeld7 => ?_)
  clear hK K
  refine wpAnyH_take (i := 4) (v := .bool false) rfl (by kernel_rfl) (by kernel_rfl) (by kernel_rfl) (fun _ _ _ h => h) (yieldsIf_binOp (by rfl) (by rfl) (by rfl) (by rfl) (fun w => by first | rfl | kernel_rfl | (simp [eqGuard, go_sem]; done)) (fun w _ => neq_img I w)) (by assumption) ?_
  simp only [List.getElem_toArray, List.getElem_cons_succ, List.getElem_cons_zero, Act.put, List.setIfInBounds_toArray, List.set_cons_zero, List.set_cons_succ]
  refine wpAnyH_take (i := 5) (v := ?_) rfl (by kernel_rfl) (by kernel_rfl) (by kernel_rfl) (fun _ _ _ h => h) (Or.inl ⟨by rfl, ?_⟩) (by assumption) ?_
  rotate_left
  · intro w hSw
    go_simp
    try with_reducible rfl
  simp only [List.getElem_toArray, List.getElem_cons_succ, List.getElem_cons_zero, Act.put, List.setIfInBounds_toArray, List.set_cons_zero, List.set_cons_succ]
  refine wpAnyH_take (i := 6) (v := ?_) rfl (by kernel_rfl) (by kernel_rfl) (by kernel_rfl) (fun _ _ _ h => h) (Or.inl ⟨by rfl, ?_⟩) (by assumption) ?_
  rotate_left
  · intro w hSw
    go_simp
    try with_reducible rfl
  simp only [List.getElem_toArray, List.getElem_cons_succ, List.getElem_cons_zero, Act.put, List.setIfInBounds_toArray, List.set_cons_zero, List.set_cons_succ]
  refine wpAnyH_take (i := 7) (v := ?_) rfl (by kernel_rfl) (by kernel_rfl) (by kernel_rfl) (fun _ _ _ h => h) (Or.inl ⟨by rfl, ?_⟩) (by assumption) ?_
  rotate_left
  · intro w hSw
    go_simp
    try with_reducible rfl
  simp only [List.getElem_toArray, List.getElem_cons_succ, List.getElem_cons_zero, Act.put, List.setIfInBounds_toArray, List.set_cons_zero, List.set_cons_succ]
  refine wpAnyH_take (i := 8) (v := ?_) rfl (by kernel_rfl) (by kernel_rfl) (by kernel_rfl) (fun _ _ _ h => h) (Or.inl ⟨by rfl, ?_⟩) (by assumption) ?_
  rotate_left
  · intro w hSw
    go_simp
    try with_reducible rfl
  simp only [List.getElem_toArray, List.getElem_cons_succ, List.getElem_cons_zero, Act.put, List.setIfInBounds_toArray, List.set_cons_zero, List.set_cons_succ]
  refine wpAnyH_take (i := 9) (v := ?_) rfl (by kernel_rfl) (by kernel_rfl) (by kernel_rfl) (fun _ _ _ h => h) (Or.inl ⟨by rfl, ?_⟩) (by assumption) ?_
  rotate_left
  · intro w hSw
    go_simp
    try with_reducible rfl
  simp only [List.getElem_toArray, List.getElem_cons_succ, List.getElem_cons_zero, Act.put, List.setIfInBounds_toArray, List.set_cons_zero, List.set_cons_succ]
  refine wpAnyH_ready (rs := [10]) (by kernel_rfl) (by simp) ?_
  refine AllReadyH.cons rfl (fun K hK => ?_) AllReadyH.nil
  go_simp
  refine hen.mono ?_
  rintro _ w8 ⟨rfl, hM8, hV8, hC8⟩
  have hS8 : Row w8 b9 (numA 30 I) 56 ∧ Row w8 b2 (numA 30 l) 56 := ⟨hS7.1.chg hC8 (by have := HNB.out; simp; omega), hS7.2.chg hC8 (by have := HNB.out; have := HN.out; simp; omega)⟩
  have hG8 : Grows w w8 := hC8.to_grows HG7.out (by have := HN.out; simp; omega)
  have him2 := image_any hV8 (.pointer (some ⟨pm, 0, none⟩)) (updR l 0 0) (l 16) q q (by rcases hq2 with rfl | rfl <;> decide) (fun W hg => regs_core (hM8.grows hg) (by omega) hk2 (if_pos rfl) (regV_ok _ _ _) (hV8.grows hg))
  rw [← HI0.out] at him2
  have HM8 := Lib.hid hM8
  have HV8 := Lib.hid hV8
  have HG8 := Lib.hid hG8
  clear hen hM8 hV8 hC8 hG8 HG7 HM7 HV7
  go_wp2_with fail
  refine hK.out _ _ hS8 (fun hHeld8 => ?_)
  clear hK K hHeld7 hS7
  refine wpAnyH_take (i := 11) (v := ?_) rfl (by kernel_rfl) (by kernel_rfl) (by kernel_rfl) (fun _ _ _ h => h) (Or.inl ⟨by rfl, ?_⟩) (by assumption) ?_
  rotate_left
  · intro w hSw
    go_simp
    try with_reducible rfl
  simp only [List.getElem_toArray, List.getElem_cons_succ, List.getElem_cons_zero, Act.put, List.setIfInBounds_toArray, List.set_cons_zero, List.set_cons_succ]
  refine wpAnyH_take (i := 12) (v := ?_) rfl (by kernel_rfl) (by kernel_rfl) (by kernel_rfl) (fun _ _ _ h => h) (Or.inl ⟨by rfl, ?_⟩) (by assumption) ?_
  rotate_left
  · intro w hSw
    go_simp
    try with_reducible rfl
  simp only [List.getElem_toArray, List.getElem_cons_succ, List.getElem_cons_zero, Act.put, List.setIfInBounds_toArray, List.set_cons_zero, List.set_cons_succ]
  refine wpAnyH_take (i := 13) (v := ?_) rfl (by kernel_rfl) (by kernel_rfl) (by kernel_rfl) (fun _ _ _ h => h) (Or.inl ⟨by rfl, ?_⟩) (by assumption) ?_
  rotate_left
  · intro w hSw
    go_simp
    try with_reducible rfl
  simp only [List.getElem_toArray, List.getElem_cons_succ, List.getElem_cons_zero, Act.put, List.setIfInBounds_toArray, List.set_cons_zero, List.set_cons_succ]
  refine wpAnyH_take (i := 14) (v := ?_) rfl (by kernel_rfl) (by kernel_rfl) (by kernel_rfl) (fun _ _ _ h => h) (Or.inl ⟨by rfl, ?_⟩) (by assumption) ?_
  rotate_left
  · intro w hSw
    go_simp
    try with_reducible rfl
  simp only [List.getElem_toArray, List.getElem_cons_succ, List.getElem_cons_zero, Act.put, List.setIfInBounds_toArray, List.set_cons_zero, List.set_cons_succ]
  refine wpAnyH_take (i := 15) (v := ?_) rfl (by kernel_rfl) (by kernel_rfl) (by kernel_rfl) (fun _ _ _ h => h) (Or.inl ⟨by rfl, ?_⟩) (by assumption) ?_
  rotate_left
  · intro w hSw
    go_simp
    try with_reducible rfl
  simp only [List.getElem_toArray, List.getElem_cons_succ, List.getElem_cons_zero, Act.put, List.setIfInBounds_toArray, List.set_cons_zero, List.set_cons_succ]
  refine wpAnyH_take (i := 17) (v := .agg (numA 30 I)) rfl (by kernel_rfl) (by kernel_rfl) (by kernel_rfl) (fun _ _ _ h => h) (yieldsIf_load_mid (by rfl) 56 _ (by rfl) b9 0 (by rfl) (numA 30 I).toList _ (fun w hw => Row.range (hw.1) (fun j v hv => by rw [Nat.zero_add, ← Array.getElem?_toList]; exact hv)) Try.underlying56 (by rfl) (by rw [Array.length_toList]; exact size_img I)) (by assumption) ?_
  simp only [List.getElem_toArray, List.getElem_cons_succ, List.getElem_cons_zero, Act.put, List.setIfInBounds_toArray, List.set_cons_zero, List.set_cons_succ]
  refine wpAnyH_ready (rs := [16]) (by kernel_rfl) (by simp) ?_
  refine AllReadyH.cons rfl (fun K hK => ?_) AllReadyH.nil
  go_simp
  refine him2.mono ?_
  rintro _ w9 ⟨rfl, hg9⟩
  have hS9 := And.intro (hS8.1.grows hg9) (hS8.2.grows hg9)
  have hlb := load_bad (HV8.out.grows hg9) l
  have HM9 := Lib.hid (HM8.out.grows hg9)
  have HV9 := Lib.hid (HV8.out.grows hg9)
  have HG9 := Lib.hid (HG8.out.trans hg9)
  clear him2 hg9 HM8 HV8 HG8
  go_wp2_with fail
  refine hK.out _ _ hS9 (fun hHeld9 => ?_)
  clear hK K hHeld8 hS8
  refine wpAnyH_take (i := 18) (v := .bool false) rfl (by kernel_rfl) (by kernel_rfl) (by kernel_rfl) (fun _ _ _ h => h) (yieldsIf_binOp (by rfl) (by rfl) (by rfl) (by rfl) (fun w => by first | rfl | kernel_rfl | (simp [eqGuard, go_sem]; done)) (fun w _ => neq_img I w)) (by assumption) ?_
  simp only [List.getElem_toArray, List.getElem_cons_succ, List.getElem_cons_zero, Act.put, List.setIfInBounds_toArray, List.set_cons_zero, List.set_cons_succ]
  refine wpAnyH_take (i := 19) (v := ?_) rfl (by kernel_rfl) (by kernel_rfl) (by kernel_rfl) (fun _ _ _ h => h) (Or.inl ⟨by rfl, ?_⟩) (by assumption) ?_
  rotate_left
  · intro w hSw
    go_simp
    try with_reducible rfl
  simp only [List.getElem_toArray, List.getElem_cons_succ, List.getElem_cons_zero, Act.put, List.setIfInBounds_toArray, List.set_cons_zero, List.set_cons_succ]
  refine wpAnyH_take (i := 20) (v := ?_) rfl (by kernel_rfl) (by kernel_rfl) (by kernel_rfl) (fun _ _ _ h => h) (Or.inl ⟨by rfl, ?_⟩) (by assumption) ?_
  rotate_left
  · intro w hSw
    go_simp
    try with_reducible rfl
  simp only [List.getElem_toArray, List.getElem_cons_succ, List.getElem_cons_zero, Act.put, List.setIfInBounds_toArray, List.set_cons_zero, List.set_cons_succ]
  refine wpAnyH_take (i := 21) (v := ?_) rfl (by kernel_rfl) (by kernel_rfl) (by kernel_rfl) (fun _ _ _ h => h) (Or.inl ⟨by rfl, ?_⟩) (by assumption) ?_
  rotate_left
  · intro w hSw
    go_simp
    try with_reducible rfl
  simp only [List.getElem_toArray, List.getElem_cons_succ, List.getElem_cons_zero, Act.put, List.setIfInBounds_toArray, List.set_cons_zero, List.set_cons_succ]
  refine wpAnyH_take (i := 22) (v := .agg (numA 30 l)) rfl (by kernel_rfl) (by kernel_rfl) (by kernel_rfl) (fun _ _ _ h => h) (yieldsIf_load_mid (by rfl) 56 _ (by rfl) b2 0 (by rfl) (numA 30 l).toList _ (fun w hw => Row.range (hw.2) (fun j v hv => by rw [Nat.zero_add, ← Array.getElem?_toList]; exact hv)) Try.underlying56 (by rfl) (by rw [Array.length_toList]; exact size_img l)) (by assumption) ?_
  simp only [List.getElem_toArray, List.getElem_cons_succ, List.getElem_cons_zero, Act.put, List.setIfInBounds_toArray, List.set_cons_zero, List.set_cons_succ]
  refine wpAnyH_ready (rs := [23]) (by kernel_rfl) (by simp) ?_
  refine AllReadyH.cons rfl (fun K hK => ?_) AllReadyH.nil
  go_simp
  refine hlb.mono ?_
  rintro _ w10 ⟨rfl, hg10⟩
  have hS10 := And.intro (hS9.1.grows hg10) (hS9.2.grows hg10)
  have HM10 := Lib.hid (HM9.out.grows hg10)
  have HV10 := Lib.hid (HV9.out.grows hg10)
  have HG10 := Lib.hid (HG9.out.trans hg10)
  clear hlb hg10 HM9 HV9 HG9
  go_wp2_with fail
  refine hK.out _ _ hS10 (fun hHeld10 => ?_)
  clear hK K hHeld9 hS9
  refine wpAnyH_take (i := 24) (v := ?_) rfl (by kernel_rfl) (by kernel_rfl) (by kernel_rfl) (fun _ _ _ h => h) (Or.inl ⟨by rfl, ?_⟩) (by assumption) ?_
  rotate_left
  · intro w hSw
    go_simp
    try with_reducible rfl
  simp only [List.getElem_toArray, List.getElem_cons_succ, List.getElem_cons_zero, Act.put, List.setIfInBounds_toArray, List.set_cons_zero, List.set_cons_succ]
  refine wpAnyH_take (i := 25) (v := ?_) rfl (by kernel_rfl) (by kernel_rfl) (by kernel_rfl) (fun _ _ _ h => h) (Or.inl ⟨by rfl, ?_⟩) (by assumption) ?_
  rotate_left
  · intro w hSw
    go_simp
    try with_reducible rfl
  simp only [List.getElem_toArray, List.getElem_cons_succ, List.getElem_cons_zero, Act.put, List.setIfInBounds_toArray, List.set_cons_zero, List.set_cons_succ]
  refine wpAnyH_done (by kernel_rfl) ?_ _
  have HS10 := Lib.hid hS10
  clear hHeld10 hS10
  have hcx := cxL_ok (g := 3) (fb := fb) (rt := 0) (regV_ok (updR l 0 0) (l 16) q)
  obtain ⟨cx, hcxe⟩ : ∃ cx, cx = cxL 3 (regV (updR l 0 0) (l 16) q) fb 0 := ⟨_, rfl⟩
  have hgt := get_some HM10.out (by omega) hk2 (if_pos rfl) hcx
  rw [← hcxe] at hcx hgt
  have HCXE := Lib.hid hcxe
  clear hcxe
  go_wp2_with fail
  refine hgt.mono ?_
  rintro _ w11 ⟨rfl, hg11⟩
  have HIA := Lib.hid (show (Try.prog.info? 61).map (·.size) = some cx.toArray.size by rw [List.size_toArray, hcx.1]; kernel_rfl)
  have HS := Lib.hid (show cx0.toArray.size = cx.toArray.size by rw [List.size_toArray, List.size_toArray, hcx.1]; rfl)
  have HO := Lib.hid hcx.2
  have HZ := Lib.hid (Row.new w11 cx0.toArray 61)
  obtain ⟨W3, hW3⟩ : ∃ W3, W3 = (w11.alloc (Obj.cells zCx 61)).setRow w11.heap.size cx.toArray := ⟨_, rfl⟩
  have HW3 := Lib.hid hW3.symm
  obtain ⟨b10, hb10⟩ : ∃ b, b = w11.heap.size := ⟨_, rfl⟩
  have HB10 := Lib.hid hb10
  have hg3 : Grows w11 W3 := by rw [hW3]; exact grows_setRow ((Grows.refl _).alloc _) (Nat.le_refl _) _
  have hr10 : Row W3 b10 cx.toArray 61 := by rw [hW3, hb10]; exact row_setRow HZ.out cx.toArray
  have hg113 := hg11.trans hg3
  have hV12 := HV10.out.grows hg113
  have hfi := quiet_of (w := W3) (fun W hg => (file_ok (hV12.grows hg)).mono fun _ _ ⟨he, hw⟩ => ⟨he, by rw [hw]; exact Grows.refl _⟩)
  have hnp : ∀ g, (binOp .neq 59 (.pointer (some ⟨fb, 0, none⟩)) (.pointer (some ⟨fb, 0, none⟩))).run Try.prog (W3.grow g) = .ok (.bool false) (W3.grow g) := fun g => neq_ptr (hV12.grows (Grows.of _ g)).file
  have e10 : W3.cell? ⟨b10, 0, none⟩ = some (.int .i64 3) := by rw [hr10.cell, HCXE.out]; rfl
  have e1017 : W3.cell? ⟨b10, 17, none⟩ = some (.int .u64 (l 16)) := by rw [hr10.cell, HCXE.out]; rfl
  have e1019 : W3.cell? ⟨b10, 19, none⟩ = some (.pointer (some ⟨fb, 0, none⟩)) := by rw [hr10.cell, HCXE.out]; rfl
  have hr212 := HS10.out.2.grows hg113
  have e216 : W3.cell? ⟨b2, 16, none⟩ = some (.int .u64 (l 16)) := by rw [hr212.cell, numA_get l (by omega)]
  have hl10 := hr10.lt
  have hl2 := hr212.lt
  have hlf := Row.lt (show Row W3 fb (fileA _) 110 from hV12.file)
  have HR12 := Lib.hid (HS10.out.1.grows hg113)
  have HM12 := Lib.hid (HM10.out.grows hg113)
  have HV12 := Lib.hid hV12
  have HG12 := Lib.hid (HG10.out.trans hg113)
  clear hgt hcx hg11 hW3 hb10 hg3 hr10 hg113 hV12 hr212 HS10 HM10 HV10 HG10 HCXE
  go_wp2_with (first
    | (refine wpList_store_row (by rfl) 61 _ _ (by rfl) w11.heap.size cx.toArray (by rfl) (by rfl) 61 _ (by exact HZ.out) HIA.out HS.out HO.out ?_; rw [HW3.out]; rw [← HB10.out]))
  clear HIA HS HO HZ HW3 HB10
  refine wp_region_grow (by kernel_rfl) (by kernel_rfl) ?_
  repeat (go_big_quiet_step ((go_at_call 26; exact hfi _)))
  refine wpQuiet_nil ?_
  intro W13 hW13
  obtain ⟨gg, hW13⟩ := hW13
  have hg13 : Grows W3 W13 := by rw [hW13]; exact Grows.of _ _
  have HR13 := Lib.hid (HR12.out.grows hg13)
  have HM13 := Lib.hid (HM12.out.grows hg13)
  have HV13 := Lib.hid (HV12.out.grows hg13)
  have HG13 := Lib.hid (HG12.out.trans hg13)
  clear hfi hnp e10 e1017 e1019 e216 hl10 hl2 hlf HR12 HM12 HV12 HG12 hg13 hW13
  obtain ⟨bb, hbb, hib⟩ := eql_owner 3 3 fb fb
  obtain rfl : bb = true := hib.2 ⟨rfl, rfl⟩
  have hlv := leave_ok (HM13.out.grows ((Grows.refl _).drew)) (by omega) (by omega) hk2 (if_pos rfl) (regV_ok _ _ _) (HV13.out.grows ((Grows.refl _).drew)) (HV13.out.grows ((Grows.refl _).drew)).file hbb
  clear hbb hib
  go_wp2_with fail
  refine wp_region_held_drew (S := fun w' => Row w' b9 (numA 30 I) 56) (by kernel_rfl) (HR13.out.grows ((Grows.refl _).drew)) (fun hHeld => ?_)
  refine wpAnyH_take (i := 0) (v := ?_) rfl (by kernel_rfl) (by kernel_rfl) (by kernel_rfl) (fun _ _ _ h => h) (Or.inl ⟨by rfl, ?_⟩) (by assumption) ?_
  rotate_left
  · intro w hSw
    go_simp
    try with_reducible rfl
  simp only [List.getElem_toArray, List.getElem_cons_succ, List.getElem_cons_zero, Act.put, List.setIfInBounds_toArray, List.set_cons_zero, List.set_cons_succ]
  refine wpAnyH_take (i := 1) (v := ?_) rfl (by kernel_rfl) (by kernel_rfl) (by kernel_rfl) (fun _ _ _ h => h) (Or.inl ⟨by rfl, ?_⟩) (by assumption) ?_
  rotate_left
  · intro w hSw
    go_simp
    try with_reducible rfl
  simp only [List.getElem_toArray, List.getElem_cons_succ, List.getElem_cons_zero, Act.put, List.setIfInBounds_toArray, List.set_cons_zero, List.set_cons_succ]
  refine wpAnyH_ready (rs := [2]) (by kernel_rfl) (by simp) ?_
  refine AllReadyH.cons rfl (fun K hK => ?_) AllReadyH.nil
  go_simp
  refine hlv.mono ?_
  rintro _ w14 ⟨rfl, hM14, hV14, hC14⟩
  have hS14 : Row w14 b9 (numA 30 I) 56 := (HR13.out.grows ((Grows.refl _).drew)).chg hC14 (by have := HNB.out; simp; omega)
  have hG14 : Grows w w14 := hC14.to_grows (HG13.out.trans ((Grows.refl _).drew)) (by have := HN.out; simp; omega)
  have him3 := image_own hV14 (by omega) hq2 (.pointer (some ⟨pm, 0, none⟩))
  rw [← HI0.out] at him3
  have HM14 := Lib.hid hM14
  have HV14 := Lib.hid hV14
  have HG14 := Lib.hid hG14
  clear hlv hM14 hV14 hC14 hG14 HR13 HM13 HV13 HG13
  go_wp2_with fail
  refine hK.out _ _ hS14 (fun hHeld14 => ?_)
  clear hK K hHeld
  refine wpAnyH_take (i := 3) (v := ?_) rfl (by kernel_rfl) (by kernel_rfl) (by kernel_rfl) (fun _ _ _ h => h) (Or.inl ⟨by rfl, ?_⟩) (by assumption) ?_
  rotate_left
  · intro w hSw
    go_simp
    try with_reducible rfl
  simp only [List.getElem_toArray, List.getElem_cons_succ, List.getElem_cons_zero, Act.put, List.setIfInBounds_toArray, List.set_cons_zero, List.set_cons_succ]
  refine wpAnyH_take (i := 4) (v := ?_) rfl (by kernel_rfl) (by kernel_rfl) (by kernel_rfl) (fun _ _ _ h => h) (Or.inl ⟨by rfl, ?_⟩) (by assumption) ?_
  rotate_left
  · intro w hSw
    go_simp
    try with_reducible rfl
  simp only [List.getElem_toArray, List.getElem_cons_succ, List.getElem_cons_zero, Act.put, List.setIfInBounds_toArray, List.set_cons_zero, List.set_cons_succ]
  refine wpAnyH_take (i := 5) (v := ?_) rfl (by kernel_rfl) (by kernel_rfl) (by kernel_rfl) (fun _ _ _ h => h) (Or.inl ⟨by rfl, ?_⟩) (by assumption) ?_
  rotate_left
  · intro w hSw
    go_simp
    try with_reducible rfl
  simp only [List.getElem_toArray, List.getElem_cons_succ, List.getElem_cons_zero, Act.put, List.setIfInBounds_toArray, List.set_cons_zero, List.set_cons_succ]
  refine wpAnyH_take (i := 6) (v := ?_) rfl (by kernel_rfl) (by kernel_rfl) (by kernel_rfl) (fun _ _ _ h => h) (Or.inl ⟨by rfl, ?_⟩) (by assumption) ?_
  rotate_left
  · intro w hSw
    go_simp
    try with_reducible rfl
  simp only [List.getElem_toArray, List.getElem_cons_succ, List.getElem_cons_zero, Act.put, List.setIfInBounds_toArray, List.set_cons_zero, List.set_cons_succ]
  refine wpAnyH_take (i := 8) (v := .agg (numA 30 I)) rfl (by kernel_rfl) (by kernel_rfl) (by kernel_rfl) (fun _ _ _ h => h) (yieldsIf_load_mid (by rfl) 56 _ (by rfl) b9 0 (by rfl) (numA 30 I).toList _ (fun w hw => Row.range hw (fun j v hv => by rw [Nat.zero_add, ← Array.getElem?_toList]; exact hv)) Try.underlying56 (by rfl) (by rw [Array.length_toList]; exact size_img I)) (by assumption) ?_
  simp only [List.getElem_toArray, List.getElem_cons_succ, List.getElem_cons_zero, Act.put, List.setIfInBounds_toArray, List.set_cons_zero, List.set_cons_succ]
  refine wpAnyH_ready (rs := [7]) (by kernel_rfl) (by simp) ?_
  refine AllReadyH.cons rfl (fun K hK => ?_) AllReadyH.nil
  go_simp
  refine him3.mono ?_
  rintro _ w15 ⟨rfl, hg15⟩
  have hls := leave_state (HM14.out.grows hg15) (by omega) (by omega) (HV14.out.grows hg15) (by omega)
  have hS15 := hS14.grows hg15
  have HG15 := Lib.hid (HG14.out.trans hg15)
  clear him3 hg15 HM14 HV14 HG14
  go_wp2_with fail
  refine hK.out _ _ hS15 (fun hHeld15 => ?_)
  clear hK K hHeld14 hS14
  refine wpAnyH_take (i := 9) (v := .bool true) rfl (by kernel_rfl) (by kernel_rfl) (by kernel_rfl) (fun _ _ _ h => h) (yieldsIf_binOp (by rfl) (by rfl) (by rfl) (by rfl) (fun w => by first | rfl | kernel_rfl | (simp [eqGuard, go_sem]; done)) (fun w _ => eql_img I w)) (by assumption) ?_
  simp only [List.getElem_toArray, List.getElem_cons_succ, List.getElem_cons_zero, Act.put, List.setIfInBounds_toArray, List.set_cons_zero, List.set_cons_succ]
  refine wpAnyH_take (i := 10) (v := ?_) rfl (by kernel_rfl) (by kernel_rfl) (by kernel_rfl) (fun _ _ _ h => h) (Or.inl ⟨by rfl, ?_⟩) (by assumption) ?_
  rotate_left
  · intro w hSw
    go_simp
    try with_reducible rfl
  simp only [List.getElem_toArray, List.getElem_cons_succ, List.getElem_cons_zero, Act.put, List.setIfInBounds_toArray, List.set_cons_zero, List.set_cons_succ]
  refine wpAnyH_take (i := 11) (v := ?_) rfl (by kernel_rfl) (by kernel_rfl) (by kernel_rfl) (fun _ _ _ h => h) (Or.inl ⟨by rfl, ?_⟩) (by assumption) ?_
  rotate_left
  · intro w hSw
    go_simp
    try with_reducible rfl
  simp only [List.getElem_toArray, List.getElem_cons_succ, List.getElem_cons_zero, Act.put, List.setIfInBounds_toArray, List.set_cons_zero, List.set_cons_succ]
  refine wpAnyH_take (i := 12) (v := ?_) rfl (by kernel_rfl) (by kernel_rfl) (by kernel_rfl) (fun _ _ _ h => h) (Or.inl ⟨by rfl, ?_⟩) (by assumption) ?_
  rotate_left
  · intro w hSw
    go_simp
    try with_reducible rfl
  simp only [List.getElem_toArray, List.getElem_cons_succ, List.getElem_cons_zero, Act.put, List.setIfInBounds_toArray, List.set_cons_zero, List.set_cons_succ]
  refine wpAnyH_take (i := 13) (v := ?_) rfl (by kernel_rfl) (by kernel_rfl) (by kernel_rfl) (fun _ _ _ h => h) (Or.inl ⟨by rfl, ?_⟩) (by assumption) ?_
  rotate_left
  · intro w hSw
    go_simp
    try with_reducible rfl
  simp only [List.getElem_toArray, List.getElem_cons_succ, List.getElem_cons_zero, Act.put, List.setIfInBounds_toArray, List.set_cons_zero, List.set_cons_succ]
  refine wpAnyH_ready (rs := [14]) (by kernel_rfl) (by simp) ?_
  refine AllReadyH.cons rfl (fun K hK => ?_) AllReadyH.nil
  go_simp
  refine hls.mono ?_
  rintro _ w16 ⟨rfl, hw16⟩
  rw [hw16]
  clear hls hw16
  go_wp2_with fail
  refine hK.out _ _ hS15 (fun hHeld16 => ?_)
  clear hK K hHeld15
  refine wpAnyH_take (i := 15) (v := ?_) rfl (by kernel_rfl) (by kernel_rfl) (by kernel_rfl) (fun _ _ _ h => h) (Or.inl ⟨by rfl, ?_⟩) (by assumption) ?_
  rotate_left
  · intro w hSw
    go_simp
    try with_reducible rfl
  simp only [List.getElem_toArray, List.getElem_cons_succ, List.getElem_cons_zero, Act.put, List.setIfInBounds_toArray, List.set_cons_zero, List.set_cons_succ]
  refine wpAnyH_take (i := 16) (v := ?_) rfl (by kernel_rfl) (by kernel_rfl) (by kernel_rfl) (fun _ _ _ h => h) (Or.inl ⟨by rfl, ?_⟩) (by assumption) ?_
  rotate_left
  · intro w hSw
    go_simp
    try with_reducible rfl
  simp only [List.getElem_toArray, List.getElem_cons_succ, List.getElem_cons_zero, Act.put, List.setIfInBounds_toArray, List.set_cons_zero, List.set_cons_succ]
  refine wpAnyH_take (i := 17) (v := ?_) rfl (by kernel_rfl) (by kernel_rfl) (by kernel_rfl) (fun _ _ _ h => h) (Or.inl ⟨by rfl, ?_⟩) (by assumption) ?_
  rotate_left
  · intro w hSw
    go_simp
    try with_reducible rfl
  simp only [List.getElem_toArray, List.getElem_cons_succ, List.getElem_cons_zero, Act.put, List.setIfInBounds_toArray, List.set_cons_zero, List.set_cons_succ]
  refine wpAnyH_done (by kernel_rfl) ?_ _
  clear hHeld16 hS15
  go_wp2_with fail
  go_ret
  exact ⟨rfl, HG15.out⟩
theorem vcpuImages_walk (ns : List Int) (hl : ns.length = 30) (hw : ∀ x ∈ ns, (Lit.int .u64 x).wf = true) (core : Int) (_ : (Lit.int .i64 core).wf = true) (w : World) :
    Calls Try.prog 5 #[.agg (ns.map (Value.int .u64) ++ ([] : List Value)).toArray, .int .i64 core] w fun r w' => r = .returned (.bool true) ∧ Grows w w' := by
  rw [num_list ns hl]
  refine vcpuImages_law _ ?_ core w
  have hm : ns.getD 17 0 ∈ ns := by
    rw [List.getD, List.getElem?_eq_getElem (show 17 < ns.length by omega)]
    exact List.getElem_mem _
  have h := hw _ hm
  have e3 : IntKind.u64.min = 0 := by decide
  have e4 : IntKind.u64.max = 18446744073709551615 := by decide
  simp only [Lit.wf, e3, e4, Bool.and_eq_true, decide_eq_true_eq] at h
  exact ⟨by omega, by omega⟩
end Go.Proofs.Ytilefidnjjbboaa
