/- frames: New. -/
import Derived.Test.YtlchlklbjocliaaDoorFrG
import Derived.Carry
namespace Go.Proofs.YtlchlklbjocliaaDoor
open Go Go.RowKit
set_option linter.unusedSimpArgs false
set_option linter.unusedVariables false
set_option maxRecDepth 100000
/-- The first k frames are had. -/
def fstT (k : Nat) : Nat → Nat := fun j => if j < k then 1 else 0
theorem fstT_up (k : Nat) : upF (fstT k) k 1 = fstT (k + 1) := by
  funext j; unfold upF fstT
  by_cases e : j = k
  · rw [if_pos e, if_pos (by omega)]
  · rw [if_neg e]
    by_cases h : j < k
    · rw [if_pos h, if_pos (by omega)]
    · rw [if_neg h, if_neg (by omega)]
theorem fstT_at (k : Nat) : fstT k k = 0 := by unfold fstT; rw [if_neg (by omega)]
theorem heldC_fst (n k : Nat) (h : k ≤ n) : heldC n (fstT k) = k := by
  induction k with
  | zero => exact cn_none fun i _ => by simp [fstT]
  | succ k ih =>
    have := heldC_new (n := n) (v := 1) (T := fstT k) (show k < n by omega) (fstT_at k) (by omega)
    rw [fstT_up, ih (by omega)] at this
    exact this
theorem ownC_fst (n k : Nat) (h : k ≤ n) : ownC n (fstT k) (fun _ => 0) = upF (fun _ => 0) 0 k := by
  funext o
  by_cases e : o = 0
  · subst e
    rw [upF_same]
    exact Eq.trans (cn_congr (q := fun j => decide (0 < fstT k j)) fun i _ => by simp) (heldC_fst n k h)
  · rw [upF_ne _ _ e]
    exact cn_none fun i _ => by simp; omega
theorem tmF_zero (n : Nat) : tmF n (fstT 0) = fun _ => none := by
  funext x; unfold tmF fstT; rw [if_neg (by simp)]
theorem FrRow.congr {w : World} {p bt bw n first low : Nat} {own : Nat → Nat} {quo quo' : Nat → Int} (h : FrRow w p bt bw n first own quo low) (hq : ∀ i, i < 17 → quo i = quo' i) : FrRow w p bt bw n first own quo' low := by
  obtain ⟨cs, t, hr, h9, h0, h1, h2, h3, h5, h6, h7⟩ := h
  exact ⟨cs, t, hr, h9, h0, h1, h2, h3, h5, fun i hi => by rw [← hq i hi]; exact h6 i hi, h7⟩
def newCells (n first bt bw : Nat) : Array Value := #[.int .i64 n, .int .i64 first, .map (some bt), .map (some bw), .int .i64 0, .int .i64 0, .int .i64 0, .int .i64 0, .int .i64 0, .int .i64 0, .int .i64 0, .int .i64 0, .int .i64 0, .int .i64 0, .int .i64 0, .int .i64 0, .int .i64 0, .int .i64 0, .int .i64 0, .int .i64 0, .int .i64 0, .int .i64 0, .int .i64 0, .int .i64 0, .int .i64 0, .int .i64 0, .int .i64 0, .int .i64 0, .int .i64 0, .int .i64 0, .int .i64 0, .int .i64 0, .int .i64 0, .int .i64 0, .int .i64 0, .int .i64 0, .int .i64 0, .int .i64 0, .int .i64 first]
theorem newCells_def (n first bt bw : Nat) : (#[.int .i64 n, .int .i64 first, .map (some bt), .map (some bw), .int .i64 0, .int .i64 0, .int .i64 0, .int .i64 0, .int .i64 0, .int .i64 0, .int .i64 0, .int .i64 0, .int .i64 0, .int .i64 0, .int .i64 0, .int .i64 0, .int .i64 0, .int .i64 0, .int .i64 0, .int .i64 0, .int .i64 0, .int .i64 0, .int .i64 0, .int .i64 0, .int .i64 0, .int .i64 0, .int .i64 0, .int .i64 0, .int .i64 0, .int .i64 0, .int .i64 0, .int .i64 0, .int .i64 0, .int .i64 0, .int .i64 0, .int .i64 0, .int .i64 0, .int .i64 0, .int .i64 first] : Array Value) = newCells n first bt bw := rfl
theorem FrRow.made {w : World} {p bt bw n first : Nat} {t : TypeId} (h : Row w p (newCells n first bt bw) t) : FrRow w p bt bw n first (fun _ => 0) (fun _ => 0) first := by
  refine ⟨_, t, h, rfl, rfl, rfl, rfl, rfl, fun i hi => ?_, fun i hi => ?_, rfl⟩
  · have : i = 0 ∨ i = 1 ∨ i = 2 ∨ i = 3 ∨ i = 4 ∨ i = 5 ∨ i = 6 ∨ i = 7 ∨ i = 8 ∨ i = 9 ∨ i = 10 ∨ i = 11 ∨ i = 12 ∨ i = 13 ∨ i = 14 ∨ i = 15 ∨ i = 16 := by omega
    rcases this with rfl | rfl | rfl | rfl | rfl | rfl | rfl | rfl | rfl | rfl | rfl | rfl | rfl | rfl | rfl | rfl | rfl <;> rfl
  · have : i = 0 ∨ i = 1 ∨ i = 2 ∨ i = 3 ∨ i = 4 ∨ i = 5 ∨ i = 6 ∨ i = 7 ∨ i = 8 ∨ i = 9 ∨ i = 10 ∨ i = 11 ∨ i = 12 ∨ i = 13 ∨ i = 14 ∨ i = 15 ∨ i = 16 := by omega
    rcases this with rfl | rfl | rfl | rfl | rfl | rfl | rfl | rfl | rfl | rfl | rfl | rfl | rfl | rfl | rfl | rfl | rfl <;> rfl
set_option maxRecDepth 100000 in
set_option maxHeartbeats 2000000 in
theorem fnew_ok (w : World) {n first : Nat} (h1 : 1 ≤ n) (h2 : n ≤ 65536) (hf : first ≤ n) :
    Calls Tryd.prog 20 #[.int .i64 n, .int .i64 first] w fun r w' => ∃ p bt bw, r = .returned (.tuple #[.pointer (some ⟨p, 0, none⟩), .int .i64 0]) ∧ FrAt w' p bt bw n first (fstT first) (fun _ => 0) (fun _ => (n : Int)) first ∧ Grows w w' ∧ w.heap.size ≤ p ∧ w.heap.size ≤ bt ∧ w.heap.size ≤ bw := by
  have hmm := @run_makeMap Tryd.prog
  have d1 : decide ((n : Int) < 1) = false := decide_eq_false (by omega)
  have d2 : decide ((65536 : Int) < n) = false := decide_eq_false (by omega)
  have d3 : decide ((first : Int) < 0) = false := decide_eq_false (by omega)
  have d4 : decide ((n : Int) < first) = false := decide_eq_false (by omega)
  go_enter Tryd.func20, Tryd.ntmps20
  go_wp2_with fail
  rw [newCells_def]
  obtain ⟨W3, hW3⟩ : ∃ W3, W3 = (((w.alloc (Obj.map #[] 0)).alloc (Obj.map #[] 0)).alloc (Obj.cells (newCells n first w.heap.size (w.heap.size + 1)) 53)) := ⟨_, rfl⟩
  obtain ⟨bt, hbt⟩ : ∃ bt, bt = w.heap.size := ⟨_, rfl⟩
  obtain ⟨bw, hbw⟩ : ∃ bw, bw = w.heap.size + 1 := ⟨_, rfl⟩
  obtain ⟨p, hp⟩ : ∃ p, p = w.heap.size + 1 + 1 := ⟨_, rfl⟩
  have g3 : Grows w W3 := by rw [hW3]; exact (((Grows.refl _).alloc _).alloc _).alloc _
  have m1 : IMap Tryd.prog 3 3 W3 bt 0 (fun _ => none) := by
    rw [hW3, hbt]
    exact IMap.grows (IMap.grows (IMap.made w _ _ _) ((Grows.refl _).alloc _)) ((Grows.refl _).alloc _)
  have m2 : IMap Tryd.prog 3 3 W3 bw 0 (fun _ => none) := by
    rw [hW3, hbw]
    have h := IMap.made (w.alloc (Obj.map #[] 0)) Tryd.prog 3 3
    rw [show (w.alloc (Obj.map #[] 0)).heap.size = w.heap.size + 1 by simp] at h
    exact IMap.grows h ((Grows.refl _).alloc _)
  have r3 : Row W3 p (newCells n first bt bw) 53 := by
    rw [hW3, hbw, hbt]; exact Row.new_at _ _ _ (by simp [hp])
  rw [← hW3, ← hp, ← hbw, ← hbt]
  have hsep : Hid ((p ≠ bt ∧ p ≠ bw ∧ bt ≠ bw) ∧ w.heap.size ≤ p ∧ w.heap.size ≤ bt ∧ w.heap.size ≤ bw) := Lib.hid (by omega)
  have HR := Lib.hid (FrRow.made r3)
  have HM1 := Lib.hid m1
  have HM2 := Lib.hid m2
  have HG := Lib.hid g3
  generalize newCells n first bt bw = NC at *
  clear hW3 hbt hbw hp g3 m1 m2 r3
  have hne := hsep.out.1
  have h2' : n < maxLen := by unfold maxLen; omega
  go_loopw [32] (fun c wr => ∃ k, k ≤ first ∧ c = .int .i64 (k : Nat) ∧ FrRow wr p bt bw n first (fun _ => 0) (fun _ => 0) first ∧ IMap Tryd.prog 3 3 wr bt k (tmF n (fstT k)) ∧ Chg [bt] W3 wr) (fun c _ => (first - intOf c).toNat)
  case atStart => exact ⟨0, by omega, rfl, HR.out, by rw [tmF_zero]; exact HM1.out, Chg.refl _ _⟩
  case round =>
    obtain ⟨k, hk, rfl, hR, hM, hC⟩ := hrel
    obtain ⟨c0, c1, c2, c3, c4⟩ := hR.cells
    have l1 := hR.lt
    by_cases hlt : k < first
    · obtain ⟨w4, hrun, hI, hgr⟩ := hM.update Tryd.underlying3 Tryd.underlying3 Tryd.underlying29 (by omega) (K := (k : Int)) (V := 1) (wf_of (by omega) (by omega)) (wf_of (by omega) (by omega))
      have hc := Chg.of_grown hgr
      have hnone : tmF n (fstT k) (k : Int) = none := by rw [tmF_at (by omega), fstT_at]; rfl
      rw [hnone] at hI
      have HI : Hid (IMap Tryd.prog 3 3 w4 bt (k + 1) (tmF n (fstT (k + 1)))) := by
        show IMap _ _ _ _ _ _ _
        rw [← fstT_up, tmF_put (by omega) (by omega)]
        exact hI
      have HR4 := Lib.hid (hR.chg hc (by simp; omega))
      have HC4 := Lib.hid (hC.trans hc)
      clear hI hgr hc hR hM hC hnone
      go_wp2_with fail
      exact ⟨⟨k + 1, by omega, by simp, HR4.out, HI.out, HC4.out⟩, by simp [intOf]; omega⟩
    · have : first = k := by omega
      subst this
      have HR4 := Lib.hid hR
      have HI := Lib.hid hM
      have HC4 := Lib.hid hC
      have ho := hR.own (i := 0) (by omega)
      have fo := hR.frozen 4
      clear hR hM hC
      have R5 := Lib.hid (HR4.out.setOwn (i := 0) (by omega) first)
      go_wp2_with fail
      obtain ⟨w5, hw5⟩ : ∃ w5, w5 = wr.setCell ⟨p, 4, none⟩ (.int .i64 (first : Nat)) := ⟨_, rfl⟩
      have R6 : Hid (FrRow w5 p bt bw n first (upF (fun _ => 0) 0 first) (fun _ => 0) first) := by show FrRow _ _ _ _ _ _ _ _ _; rw [hw5]; exact R5.out
      have HC5 : Hid (Chg [p, bt] W3 w5) := by show Chg _ _ _; rw [hw5]; exact (HC4.out.weaken (by simp)).setCell (Or.inl (by simp)) _ _
      have HI5 : Hid (IMap Tryd.prog 3 3 w5 bt first (tmF n (fstT first))) := by
        show IMap _ _ _ _ _ _ _
        rw [hw5]; exact IMap.chg' HI.out ((Chg.refl [p] _).setCell (Or.inl (by simp)) _ _) (by simp; omega)
      rw [← hw5]
      clear hw5 c0 c1 c2 c3 c4 ho fo l1 R5
      go_loopw [46] (fun c w6 => ∃ k : Nat, k ≤ 17 ∧ c = .int .i64 k ∧ FrRow w6 p bt bw n first (upF (fun _ => 0) 0 first) (fun j => if j < k then (n : Int) else 0) first ∧ Chg [p] w5 w6) (fun c _ => (17 - intOf c).toNat)
      case atStart => exact ⟨0, by omega, rfl, R6.out.congr (fun i hi => by simp), Chg.refl _ _⟩
      case round =>
        obtain ⟨k, hk, rfl, hR, hC⟩ := hrel
        have l1 := hR.lt
        by_cases hlt2 : k < 17
        · have cq := hR.quo hlt2
          have fq := hR.frozen (21 + k)
          have HR7 := Lib.hid ((hR.setQuo hlt2 (n : Int)).congr (quo' := fun j => if j < k + 1 then (n : Int) else 0) (fun i hi => by
            by_cases e : i = k
            · simp [e]
            · by_cases e2 : i < k
              · simp [e, e2, show i < k + 1 by omega]
              · simp [e, e2, show ¬ i < k + 1 by omega]))
          have HC7 := Lib.hid hC
          have i1 : (k : Int) < 17 := by omega
          clear hR hC
          go_wp2_with fail
          exact ⟨⟨k + 1, by omega, by simp, HR7.out, HC7.out.setCell (Or.inl (by simp)) _ _⟩, by simp [intOf]; omega⟩
        · have : k = 17 := by omega
          subst this
          have HR7 := Lib.hid (hR.congr (quo' := fun _ => (n : Int)) (fun i hi => by simp [hi]))
          have HC7 := Lib.hid hC
          clear hR hC
          go_wp2_with fail
          go_ret2
          refine ⟨p, bt, bw, rfl, ⟨by rw [ownC_fst n first hf]; exact HR7.out, by rw [heldC_fst n first hf]; exact IMap.chg' HI5.out HC7.out (by simp; omega), ⟨0, _, by omega, IMap.chg' (IMap.chg' HM2.out HC5.out (by simp; omega)) HC7.out (by simp; omega), fun _ _ _ => rfl, fun j h3 h4 h5 => ?_, fun _ _ => rfl⟩, h1, h2, Nat.le_refl _, hf, fun j hj => ?_, fun j hj _ => by omega, fun j hj => ?_, hne⟩, ?_, hsep.out.2.1, hsep.out.2.2.1, hsep.out.2.2.2⟩
          · unfold fstT at h5; rw [if_neg (by omega)] at h5; omega
          · unfold fstT; rw [if_pos hj]; omega
          · unfold fstT; split <;> omega
          · have := hsep.out.2
            exact (HC5.out.trans (HC7.out.weaken (by simp))).to_grows HG.out (by simp; omega)
end Go.Proofs.YtlchlklbjocliaaDoor
