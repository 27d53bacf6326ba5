/- The reference's New, and the program's where it refuses. -/
import Derived.Test.YtbiadhgkpggdeaaRFrS
import Derived.Test.YtbiadhgkpggdeaaFrL
import Derived.Carry
namespace Go.Proofs.Ytbiadhgkpggdeaa
open Go Go.RowKit
set_option linter.unusedSimpArgs false
set_option linter.unusedVariables false
/-- New lets these in. -/
def newOk (x y : Int) : Prop := 1 ≤ x ∧ x ≤ 65536 ∧ 0 ≤ y ∧ y ≤ x
theorem fnew_bad (w : World) {x y : Int} (h : ¬ newOk x y) :
    Calls Try.prog 7 #[.int .i64 x, .int .i64 y] w fun r w' => r = .returned (.tuple #[.pointer none, .int .i64 2]) ∧ w' = w := by
  unfold newOk at h
  by_cases h1 : x < 1
  · clear h
    go_enter Try.func7, Try.ntmps7
    go_wp2_with fail
    go_ret2
    exact ⟨rfl, rfl⟩
  · by_cases h2 : 65536 < x
    · clear h
      go_enter Try.func7, Try.ntmps7
      go_wp2_with fail
      go_ret2
      exact ⟨rfl, rfl⟩
    · by_cases h3 : y < 0
      · clear h
        go_enter Try.func7, Try.ntmps7
        go_wp2_with fail
        go_ret2
        exact ⟨rfl, rfl⟩
      · have h4 : x < y := by omega
        clear h
        go_enter Try.func7, Try.ntmps7
        go_wp2_with fail
        go_ret2
        exact ⟨rfl, rfl⟩
theorem madeCells_two (a : Value) (m : Nat) {i : Nat} (hi : i < m) : (madeCells #[a, a] m)[i]? = some a := by
  simp [madeCells, hi]
  have : i % 2 = 0 ∨ i % 2 = 1 := by omega
  rcases this with h | h <;> simp [h]
theorem Prs.made (w : World) (n : Nat) (t : TypeId) : Prs (w.alloc (.cells (madeCells #[.int .i64 0, .int .i64 0] (n * 2)) t)) w.heap.size n (fun _ => 0) (fstT 0) :=
  ⟨_, t, Row.new _ _ _, by rw [size_madeCells], fun i hi => ⟨madeCells_two _ _ (by omega), madeCells_two _ _ (by omega)⟩⟩
theorem info_pair : (Try.prog.info? 60).map (fun i => (i.zero, i.size, i.bytes)) = some (some (.agg #[.int .i64 0, .int .i64 0]), 2, 16) := by kernel_rfl
theorem run_make_pair (c : Nat) (hc : c ≤ 65536) (w : World) : (Instr.makeSlice 56 (.int .i64 c) (.int .i64 c)).run Try.prog w =
    .ok (.slice (some ⟨w.heap.size, 0, none⟩) c c) (w.alloc (.cells (madeCells #[.int .i64 0, .int .i64 0] (c * 2)) 60)) := by
  obtain ⟨i0, hi, hz0, hz1, hz2⟩ := info_parts' info_pair
  have h := run_make (P := Try.prog) w 56 60 i0 (.agg #[.int .i64 0, .int .i64 0]) Try.underlying56 hi hz0 .i64 .i64 (c : Int) (c : Int) (by omega) (by omega) (by rw [hz2]; omega) (by omega)
  rw [h, hz1]
  simp
  rfl
theorem rnew_bad (w : World) {x y : Int} (h : ¬ newOk x y) :
    Calls Try.prog 17 #[.int .i64 x, .int .i64 y] w fun r w' => r = .returned (.tuple #[.pointer none, .int .i64 2]) ∧ w' = w := by
  unfold newOk at h
  by_cases h1 : x < 1
  · clear h
    go_enter Try.func17, Try.ntmps17
    go_wp2_with fail
    go_ret2
    exact ⟨rfl, rfl⟩
  · by_cases h2 : 65536 < x
    · clear h
      go_enter Try.func17, Try.ntmps17
      go_wp2_with fail
      go_ret2
      exact ⟨rfl, rfl⟩
    · by_cases h3 : y < 0
      · clear h
        go_enter Try.func17, Try.ntmps17
        go_wp2_with fail
        go_ret2
        exact ⟨rfl, rfl⟩
      · have h4 : x < y := by omega
        clear h
        go_enter Try.func17, Try.ntmps17
        go_wp2_with fail
        go_ret2
        exact ⟨rfl, rfl⟩
def rnewCells (q n first : Nat) : Array Value := #[.slice (some ⟨q, 0, none⟩) n n, .int .i64 first, .int .i64 0, .int .i64 0, .int .i64 0, .int .i64 0, .int .i64 0, .int .i64 0, .int .i64 0, .int .i64 0, .int .i64 0, .int .i64 0, .int .i64 0, .int .i64 0, .int .i64 0, .int .i64 0, .int .i64 0, .int .i64 0, .int .i64 0]
theorem rnewCells_def (q n first : Nat) : (#[.slice (some ⟨q, 0, none⟩) n n, .int .i64 first, .int .i64 0, .int .i64 0, .int .i64 0, .int .i64 0, .int .i64 0, .int .i64 0, .int .i64 0, .int .i64 0, .int .i64 0, .int .i64 0, .int .i64 0, .int .i64 0, .int .i64 0, .int .i64 0, .int .i64 0, .int .i64 0, .int .i64 0] : Array Value) = rnewCells q n first := rfl
theorem RfAt.congr {w : World} {rp rq n first : Nat} {T O : Nat → Nat} {quo quo' : Nat → Int} (h : RfAt w rp rq n first T O quo) (hq : ∀ i, i < 17 → quo i = quo' i) : RfAt w rp rq n first T O quo' := by
  obtain ⟨cs, t, hr, h9, h0, h1, h2⟩ := h.row
  exact ⟨⟨cs, t, hr, h9, h0, h1, fun i hi => by rw [← hq i hi]; exact h2 i hi⟩, h.prs, h.n1, h.n2, h.ob, h.tb, h.ne⟩
set_option maxRecDepth 100000 in
set_option maxHeartbeats 2000000 in
theorem rnew_ok (w : World) {n first : Nat} (h1 : 1 ≤ n) (h2 : n ≤ 65536) (hf : first ≤ n) :
    Calls Try.prog 17 #[.int .i64 n, .int .i64 first] w fun r w' => ∃ rp rq, r = .returned (.tuple #[.pointer (some ⟨rp, 0, none⟩), .int .i64 0]) ∧ RfAt w' rp rq n first (fstT first) (fun _ => 0) (fun _ => (n : Int)) ∧ Grows w w' ∧ w.heap.size ≤ rp ∧ w.heap.size ≤ rq := by
  have hmk := run_make_pair n h2
  have d1 : decide ((n : Int) < 1) = false := decide_eq_false (by omega)
  have d2 : decide ((65536 : Int) < n) = false := decide_eq_false (by omega)
  have d3 : decide ((first : Int) < 0) = false := decide_eq_false (by omega)
  have d4 : decide ((n : Int) < first) = false := decide_eq_false (by omega)
  go_enter Try.func17, Try.ntmps17
  go_wp2_with fail
  rw [rnewCells_def]
  obtain ⟨W3, hW3⟩ : ∃ W3, W3 = ((w.alloc (Obj.cells (madeCells #[.int .i64 0, .int .i64 0] (n * 2)) 60)).alloc (Obj.cells (rnewCells w.heap.size n first) 58)) := ⟨_, rfl⟩
  obtain ⟨rq, hrq⟩ : ∃ b, b = w.heap.size := ⟨_, rfl⟩
  obtain ⟨rp, hrp⟩ : ∃ b, b = w.heap.size + 1 := ⟨_, rfl⟩
  have g3 : Grows w W3 := by rw [hW3]; exact ((Grows.refl _).alloc _).alloc _
  have m1 : Prs W3 rq n (fun _ => 0) (fstT 0) := by
    rw [hW3, hrq]
    exact (Prs.made w n _).chg (S := []) (Chg.of_grows ((Grows.refl _).alloc _)) (by simp)
  have r3 : Row W3 rp (rnewCells rq n first) 58 := by
    rw [hW3, hrq]; exact Row.new_at _ _ _ (by simp [hrp])
  rw [← hW3, ← hrp, ← hrq]
  have hsep : Hid (rp ≠ rq ∧ w.heap.size ≤ rp ∧ w.heap.size ≤ rq) := Lib.hid (by omega)
  have HR := Lib.hid r3
  have HP := Lib.hid m1
  have HG := Lib.hid g3
  have hne := hsep.out.1
  generalize hNC : rnewCells rq n first = NC at *
  have HNC := Lib.hid hNC
  clear hW3 hrq hrp g3 m1 r3 hNC
  go_loopw [7] (fun c wr => ∃ k : Nat, k ≤ first ∧ c = .int .i64 k ∧ Prs wr rq n (fun _ => 0) (fstT k) ∧ Chg [rq] W3 wr) (fun c _ => (first - intOf c).toNat)
  case atStart => exact ⟨0, by omega, rfl, HP.out, Chg.refl _ _⟩
  case round =>
    clear HP
    obtain ⟨k, hk, rfl, hP, hC⟩ := hrel
    have HRk := Lib.hid (HR.out.chg hC (by simp; omega))
    by_cases hlt : k < first
    · have hkn : k < n := by omega
      have c0 : wr.cell? ⟨rp, 0, none⟩ = some (.slice (some ⟨rq, 0, none⟩) n n) := by rw [HRk.out.cell, ← HNC.out]; rfl
      obtain ⟨_, ct⟩ := hP.cells hkn
      have fr := hP.frozen (k * 2 + 1)
      have HP4 := hP.setT hkn 1
      rw [fstT_up, show (((1 : Nat)) : Int) = (1 : Int) from rfl] at HP4
      have HP5 := Lib.hid HP4
      have HC := Lib.hid (hC.setCell (b := rq) (Or.inl (by simp)) (k * 2 + 1) (.int .i64 1))
      clear HP4 hP hC
      go_wp2_with fail
      exact ⟨⟨k + 1, by omega, by simp, HP5.out, HC.out⟩, by simp [intOf]; omega⟩
    · have : first = k := by omega
      subst this
      have hR0 : RfAt wr rp rq n first (fstT first) (fun _ => 0) (fun i => if i < 0 then (n : Int) else 0) := by
        refine ⟨⟨NC, _, HRk.out, by rw [← HNC.out]; rfl, by rw [← HNC.out]; rfl, by rw [← HNC.out]; rfl, fun i hi => ?_⟩, ⟨_, hP, fun _ _ _ => rfl⟩, h1, h2, fun _ _ _ => by omega, fun j _ => by unfold fstT; split <;> omega, hne⟩
        rw [← HNC.out]
        have : i = 0 ∨ i = 1 ∨ i = 2 ∨ i = 3 ∨ i = 4 ∨ i = 5 ∨ i = 6 ∨ i = 7 ∨ i = 8 ∨ i = 9 ∨ i = 10 ∨ i = 11 ∨ i = 12 ∨ i = 13 ∨ i = 14 ∨ i = 15 ∨ i = 16 := by omega
        rcases this with rfl | rfl | rfl | rfl | rfl | rfl | rfl | rfl | rfl | rfl | rfl | rfl | rfl | rfl | rfl | rfl | rfl <;> rfl
      have HR0 := Lib.hid hR0
      have HC := Lib.hid (hC.weaken (T := [rp, rq]) (by simp))
      clear hR0 hP hC HR
      obtain ⟨wo, hwo⟩ : ∃ wo : World, wo = wr := ⟨_, rfl⟩
      rw [← hwo]
      rw [← hwo] at HR0 HC
      clear hwo HRk
      go_wp2_with fail
      go_loopw [8] (fun c wr => ∃ k : Nat, k ≤ 17 ∧ c = .int .i64 k ∧ RfAt wr rp rq n first (fstT first) (fun _ => 0) (fun i => if i < k then (n : Int) else 0) ∧ Chg [rp, rq] W3 wr) (fun c _ => (17 - intOf c).toNat)
      case atStart => exact ⟨0, by omega, rfl, HR0.out, HC.out⟩
      case round =>
        clear HR0 HC
        obtain ⟨k, hk, rfl, hR, hC⟩ := hrel
        by_cases hlt : k < 17
        · have cq := hR.quo hlt
          have fr := (hR.frozen (2 + k)).1
          have o1 : (k : Int) < 17 := by omega
          have o0 : (0 : Int) ≤ k := by omega
          have HR5 := Lib.hid ((hR.setQuo hlt (n : Int)).congr (quo' := fun i => if i < k + 1 then (n : Int) else 0) (fun i hi => by
            by_cases e : i = k
            · subst e; simp
            · by_cases e2 : i < k
              · simp [e, e2, show i < k + 1 by omega]
              · simp [e, e2, show ¬ i < k + 1 by omega]))
          have HC5 := Lib.hid (hC.setCell (b := rp) (Or.inl (by simp)) (2 + k) (.int .i64 n))
          generalize (if k < k then (n : Int) else 0) = qz at cq
          clear hR hC
          go_wp2_with fail
          exact ⟨⟨k + 1, by omega, by simp, HR5.out, HC5.out⟩, by simp [intOf]; omega⟩
        · obtain rfl : k = 17 := by omega
          have HR5 := Lib.hid (hR.congr (quo' := fun _ => (n : Int)) (fun i hi => by simp [hi]))
          have HG5 := Lib.hid (hC.to_grows HG.out (by have := hsep.out; simp; omega))
          clear hR hC
          go_wp2_with fail
          go_ret2
          exact ⟨rp, rq, by trivial, HR5.out, HG5.out, hsep.out.2⟩
end Go.Proofs.Ytbiadhgkpggdeaa
