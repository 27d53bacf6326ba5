/- The walk of MemNobody. -/
import Derived.Test.YtoehigcojgeioaaDoorMem
namespace Go.Proofs.YtoehigcojgeioaaDoor
open Go Go.RowKit
set_option linter.unusedSimpArgs false
set_option linter.unusedVariables false
section
variable {H : Type} {enc : TypeId × Value → H}
set_option maxRecDepth 100000 in
set_option maxHeartbeats 4000000 in
theorem nobody_law {W : World} (K N : Int) (T V : Nat) (a : Option Addr) (m c : Nat) (hm63 : m ≤ 9223372036854775807) :
    Calls Tryd.prog 7 #[.agg #[.int .i64 K, .int .u64 T, .int .i64 N, .int .u64 V, .slice a m c]] W fun r w' => r = .returned (.bool true) ∧ Grows W w' := by
  have hR : Row (W.alloc (Obj.cells #[.int .i64 K, .int .u64 T, .int .i64 N, .int .u64 V, .slice a m c] 49)) W.heap.size #[.int .i64 K, .int .u64 T, .int .i64 N, .int .u64 V, .slice a m c] 49 := Row.new _ _ _
  have HR := Lib.hid hR
  have HG0 := Lib.hid ((Grows.refl W).alloc (Obj.cells #[.int .i64 K, .int .u64 T, .int .i64 N, .int .u64 V, .slice a m c] 49))
  clear hR
  go_enter Tryd.func7, Tryd.ntmps7
  go_wp2_with fail
  refine (new_ok 1 (by omega) (by omega) _).mono ?_
  rintro _ w1 ⟨p, q, rfl, hM1, hg1, hp, hq, hqp⟩
  go_wp2_with fail
  obtain ⟨be, hbe⟩ : ∃ be, be = w1.heap.size := ⟨_, rfl⟩
  obtain ⟨bl, hbl⟩ : ∃ bl, bl = w1.heap.size + 1 := ⟨_, rfl⟩
  have r1 : Row (w1.alloc (Obj.cells #[.slice none 0 0] 54)) be #[.slice none 0 0] 54 := Row.new_at _ _ _ hbe
  have r2 : Row ((w1.alloc (Obj.cells #[.slice none 0 0] 54)).alloc (Obj.cells #[.pointer none, .pointer (some ⟨be, 0, none⟩)] 24)) bl #[.pointer none, .pointer (some ⟨be, 0, none⟩)] 24 := Row.new_at _ _ _ (by simp [hbl])
  have g3 : Grows w1 ((w1.alloc (Obj.cells #[.slice none 0 0] 54)).alloc (Obj.cells #[.pointer none, .pointer (some ⟨be, 0, none⟩)] 24)) := ((Grows.refl _).alloc _).alloc _
  have r1' := r1.grows ((Grows.refl _).alloc (Obj.cells #[.pointer none, .pointer (some ⟨be, 0, none⟩)] 24))
  rw [← hbl, ← hbe]
  clear hbe hbl r1
  generalize ((w1.alloc (Obj.cells #[.slice none 0 0] 54)).alloc (Obj.cells #[.pointer none, .pointer (some ⟨be, 0, none⟩)] 24)) = W3 at *
  have hM : Mem W3 p q 256 (fun _ => 0) := (show Mem w1 p q 256 _ from hM1).grows g3
  have HR3 := Lib.hid ((HR.out.grows hg1).grows g3)
  have HG3 := Lib.hid ((HG0.out.trans hg1).trans g3)
  have hn0 : NoMem W3 none := Or.inl rfl
  have hn1 : NoMem W3 (some ⟨be, 0, none⟩) := Or.inr ⟨be, rfl, r1'⟩
  have hcells : ∀ w', Grows W3 w' → w'.cell? ⟨W.heap.size, 0, none⟩ = some (.int .i64 K) ∧ w'.cell? ⟨W.heap.size, 1, none⟩ = some (.int .u64 T) ∧ w'.cell? ⟨W.heap.size, 2, none⟩ = some (.int .i64 N) ∧ w'.cell? ⟨W.heap.size, 3, none⟩ = some (.int .u64 V) ∧ w'.cell? ⟨W.heap.size, 4, none⟩ = some (.slice a m c) := fun w' hg => by
    have h := HR3.out.grows hg
    exact ⟨h.cell 0, h.cell 1, h.cell 2, h.cell 3, h.cell 4⟩
  have hl2 := r2.lt
  have hcl : ∀ w', Grows W3 w' → w'.cell? ⟨bl, 0, none⟩ = some (.pointer none) ∧ w'.cell? ⟨bl, 1, none⟩ = some (.pointer (some ⟨be, 0, none⟩)) ∧ bl < w'.heap.size := fun w' hg => ⟨(r2.grows hg).cell 0, (r2.grows hg).cell 1, hg.lt hl2⟩
  clear hM1 hg1 hp hq hqp g3 r1' r2 hl2
  go_loopw [19] (fun i wr => ∃ k : Nat, k ≤ 2 ∧ i = .int .i64 k ∧ Grows W3 wr) (fun i _ => (2 - intOf i).toNat)
  case atStart => exact ⟨0, by omega, rfl, Grows.refl _⟩
  case round =>
    obtain ⟨k, hk, rfl, hgr⟩ := hrel
    have : k = 0 ∨ k = 1 ∨ k = 2 := by omega
    obtain ⟨c0, c1, c2, c3, c4⟩ := hcells _ hgr
    obtain ⟨b0, b1, b2⟩ := hcl _ hgr
    rcases this with rfl | rfl | rfl
    · have hh := fun w' (hg : Grows wr w') => hn0.grows (hgr.trans hg)
      have hm := fun w' (hg : Grows wr w') => hM.grows (hgr.trans hg)
      go_wp2_with fail
      refine (Load_nob (hh _ (Grows.refl _)) _ _).mono ?_
      rintro _ w5 ⟨rfl, h5⟩
      obtain ⟨e0, e1, e2, e3, e4⟩ := hcells _ (hgr.trans h5)
      clear c0 c1 c2 c3 c4
      go_wp2_with fail
      refine (Bytes_nob (hh _ h5) _ _).mono ?_
      rintro _ w6 ⟨rfl, h6⟩
      have g6 := h5.trans h6
      obtain ⟨c0, c1, c2, c3, c4⟩ := hcells _ (hgr.trans g6)
      clear e0 e1 e2 e3 e4 h5 h6
      go_wp2_with fail
      refine (Store_nob (hh _ g6) _ _ _).mono ?_
      rintro _ w7 ⟨rfl, h7⟩
      have g7 := g6.trans h7
      obtain ⟨e0, e1, e2, e3, e4⟩ := hcells _ (hgr.trans g7)
      clear c0 c1 c2 c3 c4 h7 g6
      go_wp2_with fail
      refine (Put_nob (hh _ g7) _ _ _ _ hm63).mono ?_
      rintro _ w8 ⟨rfl, h8⟩
      have g8 := g7.trans h8
      obtain ⟨c0, c1, c2, c3, c4⟩ := hcells _ (hgr.trans g8)
      clear e0 e1 e2 e3 e4 h8 g7
      go_wp2_with fail
      refine (Clear_nob (hh _ g8) _).mono ?_
      rintro _ _ ⟨rfl, hw⟩
      rw [hw]; clear hw
      go_wp2_with fail
      refine (frames_nob (hh _ g8)).mono ?_
      rintro _ _ ⟨rfl, hw⟩
      rw [hw]; clear hw
      go_wp2_with fail
      refine (Clone_nob (hh _ g8)).mono ?_
      rintro _ _ ⟨rfl, hw⟩
      rw [hw]; clear hw
      go_wp2_with fail
      refine (Same_nob (hh _ g8) (Or.inl rfl)).mono ?_
      rintro _ _ ⟨rfl, hw⟩
      rw [hw]; clear hw
      go_wp2_with fail
      refine (Same_nob1 (hh _ g8) (hm _ g8)).mono ?_
      rintro _ _ ⟨rfl, hw⟩
      rw [hw]; clear hw
      go_wp2_with fail
      refine (Same_nob2 (hh _ g8) (hm _ g8)).mono ?_
      rintro _ _ ⟨rfl, hw⟩
      rw [hw]; clear hw
      go_wp2_with fail
      exact ⟨⟨1, by omega, by simp, hgr.trans g8⟩, by simp [intOf]⟩
    · have hh := fun w' (hg : Grows wr w') => hn1.grows (hgr.trans hg)
      have hm := fun w' (hg : Grows wr w') => hM.grows (hgr.trans hg)
      go_wp2_with fail
      refine (Load_nob (hh _ (Grows.refl _)) _ _).mono ?_
      rintro _ w5 ⟨rfl, h5⟩
      obtain ⟨e0, e1, e2, e3, e4⟩ := hcells _ (hgr.trans h5)
      clear c0 c1 c2 c3 c4
      go_wp2_with fail
      refine (Bytes_nob (hh _ h5) _ _).mono ?_
      rintro _ w6 ⟨rfl, h6⟩
      have g6 := h5.trans h6
      obtain ⟨c0, c1, c2, c3, c4⟩ := hcells _ (hgr.trans g6)
      clear e0 e1 e2 e3 e4 h5 h6
      go_wp2_with fail
      refine (Store_nob (hh _ g6) _ _ _).mono ?_
      rintro _ w7 ⟨rfl, h7⟩
      have g7 := g6.trans h7
      obtain ⟨e0, e1, e2, e3, e4⟩ := hcells _ (hgr.trans g7)
      clear c0 c1 c2 c3 c4 h7 g6
      go_wp2_with fail
      refine (Put_nob (hh _ g7) _ _ _ _ hm63).mono ?_
      rintro _ w8 ⟨rfl, h8⟩
      have g8 := g7.trans h8
      obtain ⟨c0, c1, c2, c3, c4⟩ := hcells _ (hgr.trans g8)
      clear e0 e1 e2 e3 e4 h8 g7
      go_wp2_with fail
      refine (Clear_nob (hh _ g8) _).mono ?_
      rintro _ _ ⟨rfl, hw⟩
      rw [hw]; clear hw
      go_wp2_with fail
      refine (frames_nob (hh _ g8)).mono ?_
      rintro _ _ ⟨rfl, hw⟩
      rw [hw]; clear hw
      go_wp2_with fail
      refine (Clone_nob (hh _ g8)).mono ?_
      rintro _ _ ⟨rfl, hw⟩
      rw [hw]; clear hw
      go_wp2_with fail
      refine (Same_nob (hh _ g8) (Or.inl rfl)).mono ?_
      rintro _ _ ⟨rfl, hw⟩
      rw [hw]; clear hw
      go_wp2_with fail
      refine (Same_nob1 (hh _ g8) (hm _ g8)).mono ?_
      rintro _ _ ⟨rfl, hw⟩
      rw [hw]; clear hw
      go_wp2_with fail
      refine (Same_nob2 (hh _ g8) (hm _ g8)).mono ?_
      rintro _ _ ⟨rfl, hw⟩
      rw [hw]; clear hw
      go_wp2_with fail
      exact ⟨⟨2, by omega, by simp, hgr.trans g8⟩, by simp [intOf]⟩
    · go_wp2_with fail
      go_ret
      exact ⟨rfl, HG3.out.trans hgr⟩
theorem memNobody_walk (W : World) (cs : List Value) (hc : Leafs2 enc Tryd.prog W [3, 22, 3, 22, 23] cs) (hT : Widths W) :
    Calls Tryd.prog 7 #[.agg cs.toArray] W fun r w' => r = .returned (.bool true) ∧ Grows W w' := by
  obtain ⟨c0, cs, rfl, l0, hL⟩ := hc.cons
  obtain ⟨c1, cs, rfl, l1, hL⟩ := hL.cons
  obtain ⟨c2, cs, rfl, l2, hL⟩ := hL.cons
  obtain ⟨c3, cs, rfl, l3, hL⟩ := hL.cons
  obtain ⟨c4, cs, rfl, l4, hL⟩ := hL.cons
  obtain rfl := hL.nil
  obtain ⟨K, rfl, _⟩ := l0.int Tryd.underlying3
  obtain ⟨T, rfl, hT⟩ := l1.int Tryd.underlying22
  obtain ⟨N, rfl, hN⟩ := l2.int Tryd.underlying3
  obtain ⟨V, rfl, hV⟩ := l3.int Tryd.underlying22
  obtain ⟨a, m, c, X', rfl, h1, h2, h3, h4, h5⟩ := l4.slice (ts := [5]) 8 Tryd.underlying23 (by kernel_rfl) (by kernel_rfl) (by decide)
  rw [show Tryd.prog.bytesOf 5 = 1 by kernel_rfl] at h3
  have bT := bounds_u64 hT
  have bV := bounds_u64 hV
  obtain ⟨T, rfl⟩ := Int.eq_ofNat_of_zero_le (show 0 ≤ T by omega)
  obtain ⟨V, rfl⟩ := Int.eq_ofNat_of_zero_le (show 0 ≤ V by omega)
  exact nobody_law K N T V a m c (by omega)
end
end Go.Proofs.YtoehigcojgeioaaDoor
