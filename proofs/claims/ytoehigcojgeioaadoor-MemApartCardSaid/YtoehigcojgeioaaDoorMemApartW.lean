/- The walk of MemApart. -/
import Derived.Test.YtoehigcojgeioaaDoorMem
namespace Go.Proofs.YtoehigcojgeioaaDoor
open Go Go.RowKit
set_option linter.unusedSimpArgs false
set_option linter.unusedVariables false
theorem load8 (V : Nat) (h : V < 18446744073709551616) : loadN (leB V 8) = V := by
  unfold loadN
  rw [leB_length, if_neg (by decide), leN_leB, pow256.2.2]
  omega
theorem load_zeros : loadN (List.replicate 8 0) = 0 := by decide
/-- The bytes behind the store, and behind the clearing. -/
def apC (P V : Nat) : Nat → Nat := putB (fun _ => 0) P (leB V 8)
def apD (P V f : Nat) : Nat → Nat := putB (apC P V) (f * 256) (List.replicate 256 0)
theorem apC_out {P V i : Nat} (h : i < P ∨ P + 8 ≤ i) : apC P V i = 0 := putB_out _ _ _ (by rw [leB_length]; exact h)
theorem apC_seg (P V : Nat) : segB (apC P V) P 8 = leB V 8 := by
  have := segB_putB (fun _ => 0) P (leB V 8)
  rwa [leB_length] at this
theorem apD_in {P V f i : Nat} (h : f * 256 ≤ i ∧ i < f * 256 + 256) : apD P V f i = 0 := by
  unfold apD putB
  rw [if_pos (by rw [List.length_replicate]; exact h)]
  simp only [List.getD, List.getElem?_replicate]
  split <;> rfl
theorem apD_out {P V f i : Nat} (h : i < f * 256 ∨ f * 256 + 256 ≤ i) : apD P V f i = apC P V i := putB_out _ _ _ (by rw [List.length_replicate]; exact h)
theorem apD_seg_yes {P V f : Nat} (h8 : P % 8 = 0) (h : P / 256 = f) : segB (apD P V f) P 8 = List.replicate 8 0 := by
  apply List.ext_getElem
  · simp [segB]
  · intro i h1 h2
    simp [segB] at h1
    simp only [segB, List.getElem_map, List.getElem_range, List.getElem_replicate]
    exact apD_in (by omega)
theorem apD_seg_no {P V f : Nat} (h8 : P % 8 = 0) (h : P / 256 ≠ f) : segB (apD P V f) P 8 = leB V 8 := by
  rw [← apC_seg P V]
  exact segB_congr fun i hi => apD_out (by omega)
theorem apD_same_no {P V f : Nat} (h8 : P % 8 = 0) (h : P / 256 ≠ f) : segB (apD P V f) 0 768 = segB (apC P V) 0 768 := by
  refine segB_congr fun i hi => ?_
  by_cases hh : f * 256 ≤ 0 + i ∧ 0 + i < f * 256 + 256
  · rw [apD_in hh, apC_out (by omega)]
  · exact apD_out (by omega)
theorem segB_at {B C : Nat → Nat} {n i : Nat} (h : segB B 0 n = segB C 0 n) (hi : i < n) : B i = C i := by
  have h1 : (segB B 0 n).getD i 0 = (segB C 0 n).getD i 0 := by rw [h]
  rw [segB_getD _ _ _ hi, segB_getD _ _ _ hi, Nat.zero_add] at h1
  exact h1
theorem apD_same_yes {P V f : Nat} (h8 : P % 8 = 0) (hP : P + 8 ≤ 768) (hV : V < 18446744073709551616) (h : P / 256 = f) : (segB (apD P V f) 0 768 = segB (apC P V) 0 768) ↔ V = 0 := by
  constructor
  · intro he
    have h1 : segB (apD P V f) P 8 = segB (apC P V) P 8 := segB_congr fun i hi => segB_at he (by omega)
    rw [apD_seg_yes h8 h, apC_seg] at h1
    have h2 := load8 V hV
    rw [← h1, load_zeros] at h2
    exact h2.symm
  · intro h0
    refine segB_congr fun i hi => ?_
    have hz : ∀ j, apC P 0 j = 0 := fun j => by
      by_cases hj : j < P ∨ P + 8 ≤ j
      · exact apC_out hj
      · have := segB_getD (apC P 0) P 8 (i := j - P) (by omega)
        rw [apC_seg, show P + (j - P) = j by omega] at this
        rw [← this]
        have : j - P = 0 ∨ j - P = 1 ∨ j - P = 2 ∨ j - P = 3 ∨ j - P = 4 ∨ j - P = 5 ∨ j - P = 6 ∨ j - P = 7 := by omega
        rcases this with e | e | e | e | e | e | e | e <;> rw [e] <;> decide
    subst h0
    rw [hz]
    by_cases hh : f * 256 ≤ 0 + i ∧ 0 + i < f * 256 + 256
    · exact apD_in hh
    · rw [apD_out (by omega)]; exact hz _
set_option maxRecDepth 100000 in
set_option maxHeartbeats 4000000 in
theorem apart_law {W : World} (hT : Widths W) (A V : Nat) (F : Int) (hA : A < 18446744073709551616) (hV64 : V < 18446744073709551616) :
    Calls Tryd.prog 5 #[.int .u64 A, .int .u64 V, .int .i64 F] W fun r w' => r = .returned (.bool true) ∧ Grows W w' := by
  have HT := Lib.hid hT
  clear hT
  obtain ⟨f, hf, hf3⟩ : ∃ f : Nat, (wrap64 (F.tmod 3 + 3)).tmod 3 = f ∧ f < 3 := by
    have h1 := Int.tmod_lt_of_pos F (b := 3) (by omega)
    have h2 := Int.lt_tmod_of_pos F (b := 3) (by omega)
    have h3 : wrap64 (F.tmod 3 + 3) = F.tmod 3 + 3 := wrap64_small (by omega) (by omega)
    rw [h3]
    refine ⟨((F.tmod 3 + 3).tmod 3).toNat, ?_, ?_⟩
    · rw [Int.toNat_of_nonneg (Int.tmod_nonneg _ (by omega))]
    · have := Int.tmod_lt_of_pos (F.tmod 3 + 3) (b := 3) (by omega)
      omega
  have HF := Lib.hid hf
  clear hf
  obtain ⟨P, hPz, h8, hP⟩ : ∃ P : Nat, (A : Int) % 768 / 8 * 8 = P ∧ P % 8 = 0 ∧ P + 8 ≤ 768 := ⟨A % 768 / 8 * 8, by omega, by omega, by omega⟩
  by_cases hc : P / 256 = f
  · have hd : ((P : Int) / 256 == (f : Int)) = true := by simp; omega
    go_enter Tryd.func5, Tryd.ntmps5
    go_wp2_with fail
    refine (new_ok 3 (by omega) (by omega) _).mono ?_
    rintro _ w1 ⟨p, q, rfl, hM1, hg1, hp, hq, hqp⟩
    have hs := Store_ok (HT.out.grows hg1) (show Mem w1 p q 768 _ from hM1) P 8 V rfl h8 hP
    go_wp2_with fail
    refine hs.mono ?_
    rintro _ w2 ⟨rfl, hM2, hC2⟩
    have hg2 := hC2.to_grows hg1 (by simpa using hq)
    have HM2 := Lib.hid (show Mem w2 p q 768 (apC P V) from hM2)
    clear hs hM1 hM2 hC2 hg1
    have hcl := Clone_any HM2.out
    go_wp2_with fail
    refine hcl.mono ?_
    rintro _ w3 ⟨p', q', rfl, hO3, hg3, hq', hp'⟩
    have hs1 := Same_any hO3 (HM2.out.grows hg3)
    have hs2 := fun w' (hg : Grows w3 w') => Same_any ((HM2.out.grows hg3).grows hg) (hO3.grows hg)
    rw [decide_eq_true rfl] at hs1
    simp only [decide_true] at hs2
    have hql := HM2.out.qlt
    have hpl := HM2.out.plt
    clear hcl
    go_wp2_with fail
    refine hs1.mono ?_
    rintro _ w4 ⟨rfl, hg4⟩
    go_wp2_with fail
    refine (hs2 _ hg4).mono ?_
    rintro _ w5 ⟨rfl, hg5⟩
    have hO5 := (hO3.grows hg4).grows hg5
    have HM5 := Lib.hid (((HM2.out.grows hg3).grows hg4).grows hg5)
    have HG5 := Lib.hid (((hg2.trans hg3).trans hg4).trans hg5)
    have HNE : Hid (p ≠ q' ∧ q ≠ q' ∧ W.heap.size ≤ q') := by show _ ∧ _ ∧ _; have := hg2.size; omega
    clear hs1 hs2 hO3 hg2 hg3 hg4 hg5 hq' hp' hp hq hqp hql hpl HM2
    have hclr := Clear_ok hO5 f (by omega)
    clear hO5
    go_wp2_with fail
    rw [HF.out]
    go_wp2_with fail
    refine hclr.mono ?_
    rintro _ w6 ⟨rfl, hO6, hC6⟩
    have hO6' : Mem w6 p' q' 768 (apD P V f) := hO6
    have hM6 := HM5.out.chg hC6 (by have := HNE.out; simp; omega) (by have := HNE.out; simp; omega)
    have hg6 := hC6.to_grows HG5.out (by have := HNE.out; simp; omega)
    clear hclr hO6 hC6 HM5 HG5
    have hl1 := Load_ok (HT.out.grows hg6) hM6 P 8 rfl h8 hP
    rw [apC_seg, load8 V hV64] at hl1
    go_wp2_with fail
    refine hl1.mono ?_
    rintro _ w7 ⟨rfl, hg7⟩
    have hl2 := Load_ok (HT.out.grows (hg6.trans hg7)) (hO6'.grows hg7) P 8 rfl h8 hP
    clear hl1
    rw [apD_seg_yes h8 hc, load_zeros] at hl2
    go_wp2_with fail
    refine hl2.mono ?_
    rintro _ w8 ⟨rfl, hg8⟩
    have hsm := Same_any ((hO6'.grows hg7).grows hg8) ((hM6.grows hg7).grows hg8)
    have HG8 := Lib.hid ((hg6.trans hg7).trans hg8)
    clear hg6 hg7 hg8 hO6' hM6 hl2
    by_cases h0 : V = 0
    · rw [decide_eq_true ((apD_same_yes h8 hP hV64 hc).2 h0)] at hsm
      subst h0
      go_wp2_with fail
      refine hsm.mono ?_
      rintro _ w9 ⟨rfl, hg9⟩
      go_wp2_with fail
      go_ret
      exact ⟨by simp, HG8.out.trans hg9⟩
    · rw [decide_eq_false (fun h => h0 ((apD_same_yes h8 hP hV64 hc).1 h))] at hsm
      have hv0 : ((V : Int) == 0) = false := by simp; omega
      go_wp2_with fail
      refine hsm.mono ?_
      rintro _ w9 ⟨rfl, hg9⟩
      go_wp2_with fail
      go_ret
      exact ⟨by simp, HG8.out.trans hg9⟩
  · have hd : ((P : Int) / 256 == (f : Int)) = false := by simp; omega
    go_enter Tryd.func5, Tryd.ntmps5
    go_wp2_with fail
    refine (new_ok 3 (by omega) (by omega) _).mono ?_
    rintro _ w1 ⟨p, q, rfl, hM1, hg1, hp, hq, hqp⟩
    have hs := Store_ok (HT.out.grows hg1) (show Mem w1 p q 768 _ from hM1) P 8 V rfl h8 hP
    go_wp2_with fail
    refine hs.mono ?_
    rintro _ w2 ⟨rfl, hM2, hC2⟩
    have hg2 := hC2.to_grows hg1 (by simpa using hq)
    have HM2 := Lib.hid (show Mem w2 p q 768 (apC P V) from hM2)
    clear hs hM1 hM2 hC2 hg1
    have hcl := Clone_any HM2.out
    go_wp2_with fail
    refine hcl.mono ?_
    rintro _ w3 ⟨p', q', rfl, hO3, hg3, hq', hp'⟩
    have hs1 := Same_any hO3 (HM2.out.grows hg3)
    have hs2 := fun w' (hg : Grows w3 w') => Same_any ((HM2.out.grows hg3).grows hg) (hO3.grows hg)
    rw [decide_eq_true rfl] at hs1
    simp only [decide_true] at hs2
    have hql := HM2.out.qlt
    have hpl := HM2.out.plt
    clear hcl
    go_wp2_with fail
    refine hs1.mono ?_
    rintro _ w4 ⟨rfl, hg4⟩
    go_wp2_with fail
    refine (hs2 _ hg4).mono ?_
    rintro _ w5 ⟨rfl, hg5⟩
    have hO5 := (hO3.grows hg4).grows hg5
    have HM5 := Lib.hid (((HM2.out.grows hg3).grows hg4).grows hg5)
    have HG5 := Lib.hid (((hg2.trans hg3).trans hg4).trans hg5)
    have HNE : Hid (p ≠ q' ∧ q ≠ q' ∧ W.heap.size ≤ q') := by show _ ∧ _ ∧ _; have := hg2.size; omega
    clear hs1 hs2 hO3 hg2 hg3 hg4 hg5 hq' hp' hp hq hqp hql hpl HM2
    have hclr := Clear_ok hO5 f (by omega)
    clear hO5
    go_wp2_with fail
    rw [HF.out]
    go_wp2_with fail
    refine hclr.mono ?_
    rintro _ w6 ⟨rfl, hO6, hC6⟩
    have hO6' : Mem w6 p' q' 768 (apD P V f) := hO6
    have hM6 := HM5.out.chg hC6 (by have := HNE.out; simp; omega) (by have := HNE.out; simp; omega)
    have hg6 := hC6.to_grows HG5.out (by have := HNE.out; simp; omega)
    clear hclr hO6 hC6 HM5 HG5
    have hl1 := Load_ok (HT.out.grows hg6) hM6 P 8 rfl h8 hP
    rw [apC_seg, load8 V hV64] at hl1
    go_wp2_with fail
    refine hl1.mono ?_
    rintro _ w7 ⟨rfl, hg7⟩
    have hl2 := Load_ok (HT.out.grows (hg6.trans hg7)) (hO6'.grows hg7) P 8 rfl h8 hP
    clear hl1
    rw [apD_seg_no h8 hc, load8 V hV64] at hl2
    go_wp2_with fail
    refine hl2.mono ?_
    rintro _ w8 ⟨rfl, hg8⟩
    have hsm := Same_any ((hO6'.grows hg7).grows hg8) ((hM6.grows hg7).grows hg8)
    have HG8 := Lib.hid ((hg6.trans hg7).trans hg8)
    clear hg6 hg7 hg8 hO6' hM6 hl2
    rw [decide_eq_true (apD_same_no h8 hc)] at hsm
    go_wp2_with fail
    refine hsm.mono ?_
    rintro _ w9 ⟨rfl, hg9⟩
    go_wp2_with fail
    go_ret
    exact ⟨by simp, HG8.out.trans hg9⟩
theorem memApart_walk (a : Int) (wa : (Lit.int .u64 a).wf = true) (v : Int) (wv : (Lit.int .u64 v).wf = true) (F : Int) (_ : (Lit.int .i64 F).wf = true) (W : World) (hT : Widths W) :
    Calls Tryd.prog 5 #[.int .u64 a, .int .u64 v, .int .i64 F] W fun r w' => r = .returned (.bool true) ∧ Grows W w' := by
  have hv := bounds_u64 wv
  have ha := bounds_u64 wa
  obtain ⟨V, rfl⟩ := Int.eq_ofNat_of_zero_le (show 0 ≤ v by omega)
  obtain ⟨T, rfl⟩ := Int.eq_ofNat_of_zero_le (show 0 ≤ a by omega)
  exact apart_law hT T V F (by omega) (by omega)
end Go.Proofs.YtoehigcojgeioaaDoor
