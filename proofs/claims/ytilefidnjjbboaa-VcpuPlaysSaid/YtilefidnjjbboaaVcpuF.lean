/- What the functions of the package vcpu compute: Image. -/
import Derived.Test.YtilefidnjjbboaaVcpuE
import Derived.Laws.CopyRow
namespace Go
open Go.RowKit
/-- Numbers told by a function. -/
def numA (n : Nat) (u : Nat → Int) : Array Value := ((List.range n).map fun i => Value.int .u64 (u i)).toArray
theorem numA_size (n : Nat) (u : Nat → Int) : (numA n u).size = n := by simp [numA]
theorem numA_get {n i : Nat} (u : Nat → Int) (h : i < n) : (numA n u)[i]? = some (.int .u64 (u i)) := by
  unfold numA; rw [List.getElem?_toArray, List.getElem?_map, List.getElem?_range h]; rfl
theorem numA_none {n i : Nat} (u : Nat → Int) (h : n ≤ i) : (numA n u)[i]? = none := by
  rw [Array.getElem?_eq_none]; rw [numA_size]; exact h
theorem numA_ext {n : Nat} {u : Nat → Int} {a : Array Value} (hs : a.size = n) (h : ∀ i, i < n → a[i]? = some (.int .u64 (u i))) : a = numA n u := by
  apply Array.ext_getElem?
  intro i
  by_cases hi : i < n
  · rw [h i hi, numA_get u hi]
  · rw [numA_none u (by omega), Array.getElem?_eq_none (by omega)]
theorem numA_congr {n : Nat} {u v : Nat → Int} (h : ∀ i, i < n → u i = v i) : numA n u = numA n v :=
  numA_ext (numA_size n u) fun i hi => by rw [numA_get u hi, h i hi]
theorem numA_one (n : Nat) (u : Nat → Int) : (numA n u).all (·.oneCell') = true := by
  unfold numA; simp [Value.oneCell']
theorem Row.putNum {w : World} {b n : Nat} {u : Nat → Int} {t : TypeId} (h : Row w b (numA n u) t) (i : Nat) (v : Int) : Row (w.setCell ⟨b, i, none⟩ (.int .u64 v)) b (numA n fun j => if j = i then v else u j) t := by
  have h1 := h.put i (.int .u64 v)
  have e : (numA n u).setIfInBounds i (.int .u64 v) = numA n (fun j => if j = i then v else u j) := by
    apply numA_ext
    · simp [numA_size]
    · intro j hj
      rw [Array.getElem?_setIfInBounds]
      by_cases e : i = j
      · subst e; rw [if_pos rfl, if_pos (by rw [numA_size]; exact hj), if_pos rfl]
      · rw [if_neg e, numA_get u hj, if_neg (fun h => e h.symm)]
  rw [e] at h1; exact h1
/-- Numbers copied. -/
theorem run_copy_num {P : Program} (dT sT ty elem : TypeId) (hu : P.underlying dT = some (.slice elem)) (hsz : (P.info? elem).map (·.size) = some 1) {w : World} {q m b dLen dCap sLen sCap : Nat} {t : TypeId} {C : Array Value} (hq : w.heap[q]? = some (.cells C t (0, 0))) (x : Nat → Int) (hm : m = Nat.min sLen dLen) (hs : ∀ j, j < m → w.cell? ⟨b, j, none⟩ = some (.int .u64 (x j))) (hfit : m ≤ C.size) :
    (Builtin.copy_ #[dT, sT] ty #[.slice (some ⟨q, 0, none⟩) dLen dCap, .slice (some ⟨b, 0, none⟩) sLen sCap]).run P w = .ok (.int .i64 m) (w.setRow q ((numA m x).toList ++ C.toList.drop m).toArray) := by
  have hl : (numA m x).toList.length = m := by simp [numA]
  have h := run_copy_row (P := P) w dT sT ty elem q 0 dLen dCap ⟨b, 0, none⟩ sLen sCap C t (numA m x).toList hu hsz hq (by rw [hl]; exact hm) (fun j v hj => by
    have hjl : j < m := by
      rcases Nat.lt_or_ge j m with h | h
      · exact h
      · rw [List.getElem?_eq_none (by rw [hl]; exact h)] at hj; cases hj
    have e : (⟨b, 0, none⟩ : Addr).add j = ⟨b, j, none⟩ := by unfold Addr.add; split <;> simp_all
    rw [e, hs j hjl, ← hj, Array.getElem?_toList, numA_get x hjl]) (by rw [hl]; omega) (fun v hv => by
    have := Array.all_eq_true_iff_forall_mem.1 (numA_one m x) v (by simpa using hv)
    exact this)
  rw [hl] at h
  simpa [goInt] using h
theorem copied_num {n m : Nat} (u x : Nat → Int) (h : m ≤ n) : ((numA m x).toList ++ (numA n u).toList.drop m).toArray = numA n (fun j => if j < m then x j else u j) := by
  have hl : (numA m x).toList.length = m := by simp [numA]
  have hn : (numA n u).toList.length = n := by simp [numA]
  apply numA_ext
  · simp [numA]; omega
  · intro i hi
    rw [List.getElem?_toArray]
    by_cases h1 : i < m
    · rw [List.getElem?_append_left (by rw [hl]; exact h1), Array.getElem?_toList, numA_get x h1, if_pos h1]
    · rw [List.getElem?_append_right (by rw [hl]; omega), hl, List.getElem?_drop, if_neg h1, show m + (i - m) = i by omega, Array.getElem?_toList, numA_get u hi]
end Go
namespace Go.Proofs.Ytilefidnjjbboaa
open Go Go.RowKit
set_option linter.unusedSimpArgs false
set_option linter.unusedVariables false
abbrev zImg : Array Value := #[.int .u64 0, .int .u64 0, .int .u64 0, .int .u64 0, .int .u64 0, .int .u64 0, .int .u64 0, .int .u64 0, .int .u64 0, .int .u64 0, .int .u64 0, .int .u64 0, .int .u64 0, .int .u64 0, .int .u64 0, .int .u64 0, .int .u64 0, .int .u64 0, .int .u64 0, .int .u64 0, .int .u64 0, .int .u64 0, .int .u64 0, .int .u64 0, .int .u64 0, .int .u64 0, .int .u64 0, .int .u64 0, .int .u64 0, .int .u64 0]
theorem zImg_num : zImg = numA 30 (fun _ => 0) := by rfl
theorem size_u64 : (Try.prog.info? 29).map (·.size) = some 1 := by kernel_rfl
theorem size_img (u : Nat → Int) : (Try.prog.info? 56).map (·.size) = some (numA 30 u).size := by rw [numA_size]; kernel_rfl
/-- An image. -/
def imgF (x : Nat → Int) (pc m : Int) (r : Nat → Int) (j : Nat) : Int := if j < 16 then x j else if j = 16 then pc else if j = 17 then m else r (j - 18)
theorem regV_at (x : Nat → Int) (pc m : Int) {j : Nat} (h : j < 16) : (regV x pc m).toArray[j]? = some (.int .u64 (x j)) := by
  have : j = 0 ∨ j = 1 ∨ j = 2 ∨ j = 3 ∨ j = 4 ∨ j = 5 ∨ j = 6 ∨ j = 7 ∨ j = 8 ∨ j = 9 ∨ j = 10 ∨ j = 11 ∨ j = 12 ∨ j = 13 ∨ j = 14 ∨ j = 15 := by omega
  rcases this with rfl | rfl | rfl | rfl | rfl | rfl | rfl | rfl | rfl | rfl | rfl | rfl | rfl | rfl | rfl | rfl <;> rfl
set_option maxRecDepth 100000 in
set_option maxHeartbeats 4000000 in
theorem image_any {w : World} {vb fb : Nat} {g ix s co : Int} {R : List Value} {r : Nat → Int} (h : VcAt w vb fb g ix s co R r) (mv : Value) (x : Nat → Int) (pc m m' : Int) (hm' : IntKind.u64.wrap m = m')
    (hreg : ∀ W, Grows w W → Calls Try.prog 22 #[.pointer (some ⟨vb, 0, none⟩), mv] W fun e w' => e = .returned (.agg (regV x pc m).toArray) ∧ Grows W w') :
    Calls Try.prog 24 #[.pointer (some ⟨vb, 0, none⟩), mv] w fun e w' => e = .returned (.agg (numA 30 (imgF x pc m' r))) ∧ Grows w w' := by
  go_enter Try.func24, Try.ntmps24
  go_wp2_with fail
  obtain ⟨W1, hW1⟩ : ∃ W1, W1 = (w.alloc (Obj.cells zImg 56)).alloc (Obj.cells zImg 56) := ⟨_, rfl⟩
  obtain ⟨b4, hb4⟩ : ∃ b, b = w.heap.size := ⟨_, rfl⟩
  obtain ⟨b5, hb5⟩ : ∃ b, b = w.heap.size + 1 := ⟨_, rfl⟩
  have HW1 := Lib.hid hW1.symm
  show Calls _ _ _ ((w.alloc (Obj.cells zImg 56)).alloc (Obj.cells zImg 56)) _
  rw [HW1.out, ← hb5, ← hb4]
  have hr4 : Row W1 b4 (numA 30 (fun _ => 0)) 56 := by rw [hW1, ← zImg_num]; exact (Row.new_at _ _ _ hb4).grows ((Grows.refl _).alloc _)
  have hr5 : Row W1 b5 (numA 30 (fun _ => 0)) 56 := by rw [hW1, ← zImg_num]; exact Row.new_at _ _ _ (by rw [hb5]; simp)
  have hg1 : Grows w W1 := by rw [hW1]; exact ((Grows.refl _).alloc _).alloc _
  have hV1 := h.grows hg1
  have hno := vnone_ok hV1
  have HB := Lib.hid (show w.heap.size ≤ b4 ∧ w.heap.size ≤ b5 ∧ b4 ≠ b5 ∧ vb < b4 ∧ fb < b4 ∧ b4 < b5 by
    have h1 := h.row.lt
    have h2 := Row.lt (show Row w fb (fileA r) 110 from h.file)
    omega)
  have hrg := hreg W1 hg1
  clear hW1 hb4 hb5 hreg h HW1
  refine (hno).mono ?_
  rintro _ _ ⟨rfl, hw⟩
  rw [hw]
  clear hw
  clear hno
  go_wp2_with fail
  refine hrg.mono ?_
  rintro _ w2 ⟨rfl, hg2⟩
  have hr42 := hr4.grows hg2
  have hr52 := hr5.grows hg2
  have hV2 := hV1.grows hg2
  have hg2 := hg1.trans hg2
  clear hrg hr4 hr5 hg1 hV1
  obtain ⟨RA, hRA⟩ : ∃ RA, RA = (regV x pc m).toArray := ⟨_, rfl⟩
  rw [← hRA]
  have hRs : RA.size = 18 := by rw [hRA]; rfl
  have HIR := Lib.hid (show (Try.prog.info? 43).map (·.size) = some RA.size by rw [hRs]; kernel_rfl)
  have HSR := Lib.hid (show zReg.size = RA.size by rw [hRs]; rfl)
  have HOR := Lib.hid (show RA.all (·.oneCell') = true by rw [hRA]; exact regL_one (regV_ok x pc m))
  have HRA := Lib.hid hRA
  clear hRA hRs
  have HZ := Lib.hid (Row.new w2 zReg 43)
  obtain ⟨W3, hW3⟩ : ∃ W3, W3 = (w2.alloc (Obj.cells zReg 43)).setRow w2.heap.size RA := ⟨_, rfl⟩
  have HW3 := Lib.hid hW3.symm
  obtain ⟨b6, hb6⟩ : ∃ b, b = w2.heap.size := ⟨_, rfl⟩
  have hg3 : Grows w2 W3 := by rw [hW3]; exact grows_setRow ((Grows.refl _).alloc _) (Nat.le_refl _) _
  have hr63 : Row W3 b6 RA 43 := by rw [hW3, hb6]; exact row_setRow HZ.out RA
  have hr43 := hr42.grows hg3
  have hr53 := hr52.grows hg3
  have hV3 := hV2.grows hg3
  have hl5 := hr52.lt
  have HB6 := Lib.hid (show b5 ≠ b6 by omega)
  have hg3 := hg2.trans hg3
  clear hW3 hr42 hr52 hV2 hg2 hl5
  go_wp2_with (first
    | (refine wpList_store_row (by rfl) 43 _ _ (by rfl) w2.heap.size RA (by rfl) (by rfl) 43 _ (by exact HZ.out) HIR.out HSR.out HOR.out ?_; rw [HW3.out]))
  rw [← hb6]
  clear hb6 HZ HW3 HIR HSR HOR
  obtain ⟨V, hV⟩ : ∃ V, V = World.drew W3 := ⟨_, rfl⟩
  have hgV : Grows W3 V := by rw [hV]; exact (Grows.refl _).drew
  refine wp_region_still_tail 3 (by kernel_rfl) (by kernel_rfl) ?_
  simp only [List.take_succ_cons, List.take_zero, List.drop_succ_cons, List.drop_zero]
  change wpStill _ _ (World.drew W3) _ _ _
  rw [← hV]
  have HV := Lib.hid hV
  clear hV
  have hr4V := hr43.grows hgV
  have hr5V := hr53.grows hgV
  have hr6V := hr63.grows hgV
  have hVV := hV3.grows hgV
  have hgV := hg3.trans hgV
  have hcp := run_copy_num (P := Try.prog) (w := V) 96 96 3 29 Try.underlying96 size_u64 (q := b5) (m := 16) (b := b6) (dLen := 30) (dCap := 30) (sLen := 16) (sCap := 16) hr5V x rfl (fun j hj => by rw [hr6V.cell, HRA.out]; exact regV_at x pc m hj) (by rw [numA_size]; omega)
  rw [copied_num _ x (by omega)] at hcp
  obtain ⟨W4, hW4⟩ : ∃ W4, W4 = V.setRow b5 (numA 30 fun j => if j < 16 then x j else 0) := ⟨_, rfl⟩
  rw [← hW4] at hcp
  have hc4 : Chg [b5] V W4 := by rw [hW4]; exact (Chg.refl _ _).setRow (Or.inl (by simp)) _
  have hr54 : Row W4 b5 (numA 30 fun j => if j < 16 then x j else 0) 56 := by rw [hW4]; exact row_setRow hr5V _
  have hb := HB.out
  have hr44 := hr4V.chg hc4 (by simp; omega)
  have hr64 := hr6V.chg hc4 (by simp; exact fun e => HB6.out e.symm)
  have hV4 := hVV.chg hc4 (by simp; omega)
  have hg4 := hc4.to_grows hgV (by simp; omega)
  have k16 : W4.cell? ⟨b6, 16, none⟩ = some (.int .u64 pc) := by rw [hr64.cell, HRA.out]; rfl
  have k17 : W4.cell? ⟨b6, 17, none⟩ = some (.int .i64 m) := by rw [hr64.cell, HRA.out]; rfl
  have l16 : W4.cell? ⟨b5, 16, none⟩ = some (.int .u64 0) := by rw [hr54.cell, numA_get _ (by omega)]; rfl
  have l17 : W4.cell? ⟨b5, 17, none⟩ = some (.int .u64 0) := by rw [hr54.cell, numA_get _ (by omega)]; rfl
  have f16 := hr54.frozen 16
  have f17 := hr54.frozen 17
  have hr55 := (hr54.putNum 16 pc).putNum 17 m'
  obtain ⟨W5, hW5⟩ : ∃ W5, W5 = (W4.setCell ⟨b5, 16, none⟩ (.int .u64 pc)).setCell ⟨b5, 17, none⟩ (.int .u64 m') := ⟨_, rfl⟩
  rw [← hW5] at hr55
  have hc5 : Chg [b5] W4 W5 := by rw [hW5]; exact ((Chg.refl _ _).setCell (Or.inl (by simp)) _ _).setCell (Or.inl (by simp)) _ _
  have hr45 := hr44.chg hc5 (by simp; omega)
  have hV5 := hV4.chg hc5 (by simp; omega)
  have hg5 := hc5.to_grows hg4 (by simp; omega)
  have HW5 := Lib.hid hW5.symm
  have HR55 := Lib.hid hr55
  have HR45 := Lib.hid hr45
  have HV5 := Lib.hid hV5
  have HG5 := Lib.hid hg5
  clear hW4 hW5 hc4 hc5 hr4V hr5V hr6V hVV hgV hr54 hr44 hr64 hV4 hg4 hr55 hr45 hV5 hg5 hr43 hr53 hr63 hV3 hg3 hb
  repeat still_step
  refine wpStill_nil ?_
  change wpList _ _ _ _ _ (World.drew W3)
  rw [← (HV).out]
  go_wp2_with fail
  rw [HW5.out]
  clear HW5 HV hcp k16 k17 l16 l17 f16 f17
  go_loopw [25] (fun i wr => (∃ (k : Nat) (u : Nat → Int), k ≤ 12 ∧ i = .int .i64 k ∧ Row wr b5 (numA 30 u) 56 ∧ ∀ j, j < 18 + k → u j = imgF x pc m' r j) ∧ Row wr b4 (numA 30 (fun _ => 0)) 56 ∧ VcAt wr vb fb g ix s co R r ∧ Grows w wr) (fun i _ => (12 - intOf i).toNat)
  case atStart =>
    refine ⟨⟨0, _, by omega, rfl, HR55.out, fun j hj => ?_⟩, HR45.out, HV5.out, HG5.out⟩
    unfold imgF
    by_cases e1 : j = 17
    · subst e1; rfl
    · by_cases e2 : j = 16
      · subst e2; rfl
      · rw [if_neg e1, if_neg e2, if_pos (by omega), if_pos (by omega)]
  case round =>
    obtain ⟨⟨k, u, hk, rfl, hr5, hu⟩, hr4, hV, hg⟩ := hrel
    by_cases hlt : k < 12
    · have c5 : wr.cell? ⟨b5, 18 + k, none⟩ = some (.int .u64 (u (18 + k))) := by rw [hr5.cell, numA_get u (by omega)]
      have f5 := hr5.frozen (18 + k)
      obtain ⟨k0, k2, k3, k22⟩ := hV.cells
      have hgt := get_any hV.file hlt
      have hr5' := hr5.putNum (18 + k) (r k)
      have hb := HB.out
      have hc : Chg [b5] wr (wr.setCell ⟨b5, 18 + k, none⟩ (.int .u64 (r k))) := (Chg.refl _ _).setCell (Or.inl (by simp)) _ _
      have HR5 := Lib.hid hr5'
      have HR4 := Lib.hid (hr4.chg hc (by simp; omega))
      have HVV := Lib.hid (hV.chg hc (by simp; omega))
      have HG := Lib.hid (hc.to_grows hg (by simp; omega))
      have HU := Lib.hid hu
      have e18 : wrap64 (18 + (k : Int)) = ((18 + k : Nat) : Int) := by rw [wrap64_small (by omega) (by omega)]; omega
      have hlt30 : ((18 + k : Nat) : Int) < 30 := by omega
      clear hr5' hc hb hu hr5 hr4 hV hg k0 k2 k3
      go_wp2_with fail
      refine (hgt).mono ?_
      rintro _ _ ⟨rfl, hw⟩
      rw [hw]
      clear hw
      clear hgt
      go_wp2_with fail
      refine ⟨⟨⟨k + 1, _, by omega, by simp, HR5.out, fun j hj => ?_⟩, HR4.out, HVV.out, HG.out⟩, by simp [intOf]; omega⟩
      by_cases e : j = 18 + k
      · rw [if_pos e, e]; unfold imgF; rw [if_neg (by omega), if_neg (by omega), if_neg (by omega)]; congr 1; omega
      · rw [if_neg e]; exact HU.out j (by omega)
    · have : k = 12 := by omega
      subst this
      have e : numA 30 u = numA 30 (imgF x pc m' r) := numA_congr (fun i hi => hu i (by omega))
      rw [e] at hr5
      obtain ⟨IA, hIA⟩ : ∃ IA, IA = numA 30 (imgF x pc m' r) := ⟨_, rfl⟩
      have hs := size_img (imgF x pc m' r)
      have ho := numA_one 30 (imgF x pc m' r)
      have hsz : (numA 30 (fun _ => 0)).size = IA.size := by rw [hIA, numA_size, numA_size]
      rw [← hIA] at hs ho hr5
      have HIA := Lib.hid hIA
      have HR5 := Lib.hid hr5
      have HR4 := Lib.hid hr4
      have HS := Lib.hid hs
      have HO := Lib.hid ho
      have HSZ := Lib.hid hsz
      have HF := Lib.hid (row_setRow hr4 IA)
      have HGF := Lib.hid (grows_setRow hg (b := b4) HB.out.1 IA)
      clear e hIA hs ho hr5 hr4 hg hsz hV hu
      go_wp2_with (first
        | (refine wpList_load_row (by rfl) 56 _ (by rfl) b5 (by rfl) 56 IA (0, 0) _ (by exact HR5.out) Try.underlying56 rfl HS.out ?_)
        | (refine wpList_store_row (by rfl) 56 _ _ (by rfl) b4 IA (by rfl) (by rfl) 56 _ (by exact HR4.out) HS.out HSZ.out HO.out ?_))
      exact bodyPost_ret (results_cell_row (by rfl) _ _ b4 56 IA _ _ (by rfl) HF.out Try.underlying56 (by rfl) HS.out) rfl ⟨by rw [HIA.out], HGF.out⟩
end Go.Proofs.Ytilefidnjjbboaa
