/- The walk of MemEnds. -/
import Derived.Test.YtoehigcojgeioaaDoorMem
namespace Go.Proofs.YtoehigcojgeioaaDoor
open Go Go.RowKit
set_option linter.unusedSimpArgs false
set_option linter.unusedVariables false
/-- Of a number at k bytes before the end. -/
theorem ends_num {n k W : Nat} (hW : W = 1 ∨ W = 4 ∨ W = 8) (hn : n % 256 = 0) (hk : k ≤ 63) (h64 : 64 ≤ n) : numE n (n - k / W * W) (W : Nat) = if W ≤ k then 0 else 12 := by
  have hkn : knownB (W : Nat) = true := by rcases hW with rfl | rfl | rfl <;> rfl
  have hm : (n - k / W * W) % W = 0 := by rcases hW with rfl | rfl | rfl <;> omega
  have h1 : ((n - k / W * W : Nat) : Int) % (W : Int) = 0 := by rw [← Int.natCast_emod, hm]; rfl
  have h2 : ¬ (W : Int) < 0 := by omega
  unfold numE partE
  rw [hkn, if_neg (by decide), if_neg (by simpa using h1), if_neg h2]
  by_cases hc : W ≤ k
  · rw [if_pos hc, if_pos]
    rcases hW with rfl | rfl | rfl <;> omega
  · rw [if_neg hc, if_neg]
    rcases hW with rfl | rfl | rfl <;> omega
theorem ends_part (n k : Nat) (h : k ≤ n) (j : Nat) : partE n (n - k) (j : Nat) = if j ≤ k then 0 else 12 := by
  unfold partE
  rw [if_neg (by omega)]
  by_cases hc : j ≤ k
  · rw [if_pos hc, if_pos (by omega)]
  · rw [if_neg hc, if_neg (by omega)]
set_option maxRecDepth 100000 in
set_option maxHeartbeats 4000000 in
theorem ends_law {W : World} (hT : Widths W) (F K : Int) :
    Calls Tryd.prog 4 #[.int .i64 F, .int .i64 K] W fun r w' => r = .returned (.bool true) ∧ Grows W w' := by
  have HT := Lib.hid hT
  clear hT
  obtain ⟨G, hG, hG1, hG8⟩ : ∃ G : Nat, wrap64 (1 + bits .and .i64 F 7) = G ∧ 1 ≤ G ∧ G ≤ 8 := by
    have e : bits .and .i64 F 7 = F % 8 := and_mask_i64 (n := 3) (by omega)
    rw [e, wrap64_small (by omega) (by omega)]
    exact ⟨(1 + F % 8).toNat, by omega, by omega, by omega⟩
  obtain ⟨k, hkz, hk⟩ : ∃ k : Nat, bits .and .i64 K 63 = k ∧ k ≤ 63 := by
    have e : bits .and .i64 K 63 = K % 64 := and_mask_i64 (n := 6) (by omega)
    rw [e]
    exact ⟨(K % 64).toNat, by omega, by omega⟩
  obtain ⟨n, hn⟩ : ∃ n, n = G * 256 := ⟨_, rfl⟩
  have hnz : 256 * (G : Int) = (n : Nat) := by omega
  have HF := Lib.hid hG
  have HN := Lib.hid hn
  have hn8 : n ≤ 2048 := by omega
  have hn1 : 256 ≤ n := by omega
  clear hG hn
  go_enter Tryd.func4, Tryd.ntmps4
  go_wp2_with fail
  rw [HF.out]
  refine (new_ok G (by omega) (by omega) _).mono ?_
  rintro _ w1 ⟨p, q, rfl, hM1, hg1, hp, hq, hqp⟩
  rw [← HN.out] at hM1
  have hfr := frames_any hM1
  rw [show n / 256 = G by have := HN.out; omega] at hfr
  go_wp2_with fail
  refine hfr.mono ?_
  rintro _ _ ⟨rfl, hw⟩
  rw [hw]
  clear hw hfr
  go_wp2_with fail
  obtain ⟨bl, hbl⟩ : ∃ bl, bl = w1.heap.size := ⟨_, rfl⟩
  have hrow : Row (w1.alloc (Obj.cells #[Value.int .i64 1, .int .i64 4, .int .i64 8] 3)) bl #[.int .i64 1, .int .i64 4, .int .i64 8] 3 := Row.new_at _ _ _ hbl
  have hM4 := hM1.grows ((Grows.refl w1).alloc (Obj.cells #[Value.int .i64 1, .int .i64 4, .int .i64 8] 3))
  have hg4 := hg1.alloc (Obj.cells #[Value.int .i64 1, .int .i64 4, .int .i64 8] 3)
  have HNE : Hid (bl ≠ q) := by show bl ≠ q; have := hM1.qlt; omega
  have HQ : Hid (W.heap.size ≤ q) := hq
  rw [← hbl]
  clear hbl hM1 hg1 hp hq hqp
  generalize (w1.alloc (Obj.cells #[Value.int .i64 1, .int .i64 4, .int .i64 8] 3)) = w4 at *
  go_loopw [45] (fun i wr => ∃ (j : Nat), j ≤ 3 ∧ i = .int .i64 j ∧ (∃ B, Mem wr p q n B) ∧ Row wr bl #[.int .i64 1, .int .i64 4, .int .i64 8] 3 ∧ Grows W wr) (fun i _ => (3 - intOf i).toNat)
  case atStart => exact ⟨0, by omega, rfl, ⟨_, hM4⟩, hrow, hg4⟩
  case round =>
    clear hrow hg4 hM4
    obtain ⟨j, hj, rfl, ⟨B, hM⟩, hR, hG⟩ := hrel
    have : j = 0 ∨ j = 1 ∨ j = 2 ∨ j = 3 := by omega
    rcases this with rfl | rfl | rfl | rfl
    · obtain ⟨P, hPe⟩ : ∃ P, P = n - k / 1 * 1 := ⟨_, rfl⟩
      have hPz : (n : Int) - (k : Int) = ((P : Nat) : Int) := by omega
      have hnum := ends_num (n := n) (k := k) (W := 1) (by omega) (by have := HN.out; omega) hk (by omega)
      rw [← hPe] at hnum
      have hP64 : P < 18446744073709551616 := by omega
      clear hPe
      have cl : wr.cell? ⟨bl, 0, none⟩ = some (.int .i64 1) := hR.cell 0
      have lb := hR.lt
      by_cases hc : 1 ≤ k
      · rw [if_pos hc] at hnum
        obtain ⟨W', hW', hk', ha', hn', _, _⟩ := numE_ok hnum
        obtain rfl : W' = 1 := by omega
        have h1 := Load_ok (HT.out.grows hG) hM P 1 hk' ha' hn'
        have h2 := fun w' (hg : Grows wr w') => Store_ok (HT.out.grows (hG.trans hg)) (hM.grows hg) P 1 7 hk' ha' hn'
        have HM := Lib.hid hM
        have HR := Lib.hid hR
        have HG := Lib.hid hG
        clear hM hR hG hnum hW' hk' ha' hn'
        go_wp2_with fail
        refine h1.mono ?_
        rintro _ w2 ⟨rfl, hg2⟩
        go_wp2_with fail
        refine (h2 _ hg2).mono ?_
        rintro _ w3 ⟨rfl, hM3, hC3⟩
        have hgr := hC3.to_grows (HG.out.trans hg2) (by have := HQ.out; simp; omega)
        have HR3 := Lib.hid ((HR.out.grows hg2).chg hC3 (by have := HNE.out; simp; omega))
        clear h1 h2 hC3 hg2 cl lb
        go_wp2_with fail
        exact ⟨⟨0 + 1, by omega, by simp, ⟨_, hM3⟩, HR3.out, hgr⟩, by simp [intOf]⟩
      · rw [if_neg hc] at hnum
        have h1 := Load_bad hM P (1 : Nat) hP64 (by rw [hnum]; decide)
        have h2 := fun w' (hg : Grows wr w') => Store_bad (hM.grows hg) P (1 : Nat) 7 hP64 (by rw [hnum]; decide)
        rw [hnum] at h1
        simp only [hnum] at h2
        have HM := Lib.hid hM
        have HR := Lib.hid hR
        have HG := Lib.hid hG
        clear hM hR hG hnum
        go_wp2_with fail
        refine h1.mono ?_
        rintro _ w2 ⟨rfl, hg2⟩
        go_wp2_with fail
        refine (h2 _ hg2).mono ?_
        rintro _ w3 ⟨rfl, hg3⟩
        have HG3 := Lib.hid (hg2.trans hg3)
        clear h1 h2 hg2 hg3 cl lb
        go_wp2_with fail
        exact ⟨⟨0 + 1, by omega, by simp, ⟨_, HM.out.grows HG3.out⟩, HR.out.grows HG3.out, HG.out.trans HG3.out⟩, by simp [intOf]⟩
    · obtain ⟨P, hPe⟩ : ∃ P, P = n - k / 4 * 4 := ⟨_, rfl⟩
      have hPz : (n : Int) - (k : Int) / 4 * 4 = ((P : Nat) : Int) := by omega
      have hnum := ends_num (n := n) (k := k) (W := 4) (by omega) (by have := HN.out; omega) hk (by omega)
      rw [← hPe] at hnum
      have hP64 : P < 18446744073709551616 := by omega
      clear hPe
      have cl : wr.cell? ⟨bl, 1, none⟩ = some (.int .i64 4) := hR.cell 1
      have lb := hR.lt
      by_cases hc : 4 ≤ k
      · rw [if_pos hc] at hnum
        obtain ⟨W', hW', hk', ha', hn', _, _⟩ := numE_ok hnum
        obtain rfl : W' = 4 := by omega
        have h1 := Load_ok (HT.out.grows hG) hM P 4 hk' ha' hn'
        have h2 := fun w' (hg : Grows wr w') => Store_ok (HT.out.grows (hG.trans hg)) (hM.grows hg) P 4 7 hk' ha' hn'
        have HM := Lib.hid hM
        have HR := Lib.hid hR
        have HG := Lib.hid hG
        clear hM hR hG hnum hW' hk' ha' hn'
        go_wp2_with fail
        refine h1.mono ?_
        rintro _ w2 ⟨rfl, hg2⟩
        go_wp2_with fail
        refine (h2 _ hg2).mono ?_
        rintro _ w3 ⟨rfl, hM3, hC3⟩
        have hgr := hC3.to_grows (HG.out.trans hg2) (by have := HQ.out; simp; omega)
        have HR3 := Lib.hid ((HR.out.grows hg2).chg hC3 (by have := HNE.out; simp; omega))
        clear h1 h2 hC3 hg2 cl lb
        go_wp2_with fail
        exact ⟨⟨1 + 1, by omega, by simp, ⟨_, hM3⟩, HR3.out, hgr⟩, by simp [intOf]⟩
      · rw [if_neg hc] at hnum
        have h1 := Load_bad hM P (4 : Nat) hP64 (by rw [hnum]; decide)
        have h2 := fun w' (hg : Grows wr w') => Store_bad (hM.grows hg) P (4 : Nat) 7 hP64 (by rw [hnum]; decide)
        rw [hnum] at h1
        simp only [hnum] at h2
        have HM := Lib.hid hM
        have HR := Lib.hid hR
        have HG := Lib.hid hG
        clear hM hR hG hnum
        go_wp2_with fail
        refine h1.mono ?_
        rintro _ w2 ⟨rfl, hg2⟩
        go_wp2_with fail
        refine (h2 _ hg2).mono ?_
        rintro _ w3 ⟨rfl, hg3⟩
        have HG3 := Lib.hid (hg2.trans hg3)
        clear h1 h2 hg2 hg3 cl lb
        go_wp2_with fail
        exact ⟨⟨1 + 1, by omega, by simp, ⟨_, HM.out.grows HG3.out⟩, HR.out.grows HG3.out, HG.out.trans HG3.out⟩, by simp [intOf]⟩
    · obtain ⟨P, hPe⟩ : ∃ P, P = n - k / 8 * 8 := ⟨_, rfl⟩
      have hPz : (n : Int) - (k : Int) / 8 * 8 = ((P : Nat) : Int) := by omega
      have hnum := ends_num (n := n) (k := k) (W := 8) (by omega) (by have := HN.out; omega) hk (by omega)
      rw [← hPe] at hnum
      have hP64 : P < 18446744073709551616 := by omega
      clear hPe
      have cl : wr.cell? ⟨bl, 2, none⟩ = some (.int .i64 8) := hR.cell 2
      have lb := hR.lt
      by_cases hc : 8 ≤ k
      · rw [if_pos hc] at hnum
        obtain ⟨W', hW', hk', ha', hn', _, _⟩ := numE_ok hnum
        obtain rfl : W' = 8 := by omega
        have h1 := Load_ok (HT.out.grows hG) hM P 8 hk' ha' hn'
        have h2 := fun w' (hg : Grows wr w') => Store_ok (HT.out.grows (hG.trans hg)) (hM.grows hg) P 8 7 hk' ha' hn'
        have HM := Lib.hid hM
        have HR := Lib.hid hR
        have HG := Lib.hid hG
        clear hM hR hG hnum hW' hk' ha' hn'
        go_wp2_with fail
        refine h1.mono ?_
        rintro _ w2 ⟨rfl, hg2⟩
        go_wp2_with fail
        refine (h2 _ hg2).mono ?_
        rintro _ w3 ⟨rfl, hM3, hC3⟩
        have hgr := hC3.to_grows (HG.out.trans hg2) (by have := HQ.out; simp; omega)
        have HR3 := Lib.hid ((HR.out.grows hg2).chg hC3 (by have := HNE.out; simp; omega))
        clear h1 h2 hC3 hg2 cl lb
        go_wp2_with fail
        exact ⟨⟨2 + 1, by omega, by simp, ⟨_, hM3⟩, HR3.out, hgr⟩, by simp [intOf]⟩
      · rw [if_neg hc] at hnum
        have h1 := Load_bad hM P (8 : Nat) hP64 (by rw [hnum]; decide)
        have h2 := fun w' (hg : Grows wr w') => Store_bad (hM.grows hg) P (8 : Nat) 7 hP64 (by rw [hnum]; decide)
        rw [hnum] at h1
        simp only [hnum] at h2
        have HM := Lib.hid hM
        have HR := Lib.hid hR
        have HG := Lib.hid hG
        clear hM hR hG hnum
        go_wp2_with fail
        refine h1.mono ?_
        rintro _ w2 ⟨rfl, hg2⟩
        go_wp2_with fail
        refine (h2 _ hg2).mono ?_
        rintro _ w3 ⟨rfl, hg3⟩
        have HG3 := Lib.hid (hg2.trans hg3)
        clear h1 h2 hg2 hg3 cl lb
        go_wp2_with fail
        exact ⟨⟨2 + 1, by omega, by simp, ⟨_, HM.out.grows HG3.out⟩, HR.out.grows HG3.out, HG.out.trans HG3.out⟩, by simp [intOf]⟩
    · clear hR
      obtain ⟨P, hPz⟩ : ∃ P : Nat, (n : Int) - k = P := ⟨n - k, by omega⟩
      have b1 := Bytes_ok hM P k (by omega)
      have e2 : partE n P ((k : Int) + 1) = 12 := by
        unfold partE
        rw [if_neg (by omega), if_neg (by omega)]
      have e3 : partE n (n + 1) 0 = 12 := by
        unfold partE
        rw [if_neg (by omega), if_neg (by omega)]
      have e4 : partE n n (1 : Nat) = 12 := by
        unfold partE
        rw [if_neg (by omega), if_neg (by omega)]
      have b2 := fun w' (hg : Grows wr w') => Bytes_bad (hM.grows hg) P ((k : Int) + 1) (by omega) (by omega) (by rw [e2]; decide)
      have b3 := fun w' (hg : Grows wr w') => Bytes_bad (hM.grows hg) (n + 1) 0 (by omega) (by omega) (by rw [e3]; decide)
      have b4 := fun w' (hg : Grows wr w') (a : Option Addr) (c : Nat) => Put_bad (hM.grows hg) n 1 c a (by omega) (by omega) (by rw [e4]; decide)
      have b5 := fun w' (hg : Grows wr w') => Clear_bad (hM.grows hg) G (Or.inr (by have := HN.out; omega))
      simp only [e2] at b2
      simp only [e3] at b3
      simp only [e4] at b4
      have HG := Lib.hid hG
      clear e2 e3 e4 hM hG
      go_wp2_with fail
      refine b1.mono ?_
      rintro _ w5 ⟨v, rfl, b, c, rfl, _, _, hg5, _, _⟩
      go_wp2_with fail
      refine (b2 _ hg5).mono ?_
      rintro _ w6 ⟨rfl, hg6⟩
      go_wp2_with fail
      refine (b3 _ (hg5.trans hg6)).mono ?_
      rintro _ w7 ⟨rfl, hg7⟩
      go_wp2_with fail
      refine (b4 _ (((hg5.trans hg6).trans hg7).alloc _) _ _).mono ?_
      rintro _ w8 ⟨rfl, hg8⟩
      go_wp2_with fail
      refine (b5 _ ((((hg5.trans hg6).trans hg7).alloc _).trans hg8)).mono ?_
      rintro _ w9 ⟨rfl, hg9⟩
      go_wp2_with fail
      go_ret
      exact ⟨by simp, (HG.out.trans ((((hg5.trans hg6).trans hg7).alloc _).trans hg8)).trans hg9⟩
theorem memEnds_walk (F : Int) (_ : (Lit.int .i64 F).wf = true) (K : Int) (_ : (Lit.int .i64 K).wf = true) (W : World) (hT : Widths W) :
    Calls Tryd.prog 4 #[.int .i64 F, .int .i64 K] W fun r w' => r = .returned (.bool true) ∧ Grows W w' := ends_law hT F K
end Go.Proofs.YtoehigcojgeioaaDoor
