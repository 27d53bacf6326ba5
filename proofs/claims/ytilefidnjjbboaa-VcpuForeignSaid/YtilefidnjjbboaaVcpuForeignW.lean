/- The walk of VcpuForeign. -/
import Derived.Test.YtilefidnjjbboaaVcpuC
namespace Go.Proofs.Ytilefidnjjbboaa
open Go Go.RowKit
set_option linter.unusedSimpArgs false
set_option linter.unusedVariables false
theorem mach_keep {w w' : World} {pm me N F pm' me' b1 b2 : Nat} {cb : Nat → Nat} {st : Nat → Option (List Value)} {s : Option (List Value)} {c2 : Array Value} (h : MachAt w pm me N F cb st) (hc : Chg [b1, b2] w w') (h1 : CoreAt w b1 me' pm' s) (hn : ∀ i, i < N → cb i ≠ b1) (h2 : Row w b2 c2 68) : MachAt w' pm me N F cb st := by
  obtain ⟨_, _, _, hm, hq, _⟩ := h.hd
  obtain ⟨_, hmm⟩ := h.mem
  obtain ⟨_, _, _, _, hr1⟩ := h1
  refine h.chg hc ⟨?_, ?_, fun i hi => ?_⟩ (fun b hb => ?_)
  · simp only [List.mem_cons, List.not_mem_nil, or_false, not_or]
    exact ⟨fun e => by rw [← e] at hr1; exact absurd (row_type hm hr1) (by decide), fun e => by rw [← e] at h2; exact absurd (row_type hm h2) (by decide)⟩
  · simp only [List.mem_cons, List.not_mem_nil, or_false, not_or]
    exact ⟨fun e => by rw [← e] at hr1; exact absurd (row_type hmm hr1) (by decide), fun e => by rw [← e] at h2; exact absurd (row_type hmm h2) (by decide)⟩
  · obtain ⟨_, _, _, _, hri⟩ := h.cores i hi
    simp only [List.mem_cons, List.not_mem_nil, or_false, not_or]
    exact ⟨hn i hi, fun e => by rw [← e] at h2; exact absurd (row_type hri h2) (by decide)⟩
  · simp only [List.mem_cons, List.not_mem_nil, or_false] at hb
    rcases hb with rfl | rfl
    · exact ⟨_, _, hr1, by decide⟩
    · exact ⟨_, _, h2, by decide⟩
theorem vc_keep {w w' : World} {pm' me' b1 b2 vb fb : Nat} {g ix s co : Int} {R : List Value} {r : Nat → Int} {sc : Option (List Value)} {c2 : Array Value} (h : VcAt w vb fb g ix s co R r) (hc : Chg [b1, b2] w w') (h1 : CoreAt w b1 me' pm' sc) (h2 : Row w b2 c2 68) (hn : vb ≠ b2) : VcAt w' vb fb g ix s co R r := by
  obtain ⟨_, _, _, _, hr1⟩ := h1
  have hf : Row w fb (fileA r) 110 := h.file
  refine h.chg hc ⟨?_, ?_⟩
  · simp only [List.mem_cons, List.not_mem_nil, or_false, not_or]
    exact ⟨fun e => by rw [← e] at hr1; exact absurd (row_type h.row hr1) (by decide), hn⟩
  · simp only [List.mem_cons, List.not_mem_nil, or_false, not_or]
    exact ⟨fun e => by rw [← e] at hr1; exact absurd (row_type hf hr1) (by decide), fun e => by rw [← e] at h2; exact absurd (row_type hf h2) (by decide)⟩
set_option maxRecDepth 100000 in
set_option maxHeartbeats 4000000 in
theorem vcpuForeign_walk (core : Int) (_ : (Lit.int .i64 core).wf = true) (W : World) :
    Calls Try.prog 3 #[.int .i64 core] W fun r w' => r = .returned (.bool true) ∧ Grows W w' := by
  obtain ⟨k, hk, hk2⟩ : ∃ k : Nat, bits .and .i64 core 1 = k ∧ k < 2 := by
    have e : bits .and .i64 core 1 = core % 2 := and_mask_i64 (n := 1) (by omega)
    rw [e]
    exact ⟨(core % 2).toNat, by omega, by omega⟩
  go_enter Try.func3, Try.ntmps3
  go_wp2_with fail
  refine (machnew_ok W (N := 2) (F := 1) (by omega) (by omega) (by omega) (by omega)).mono ?_
  rintro _ w1 ⟨p1, m1, cb1, rfl, hM1, hg1, hp1, hcb1⟩
  go_wp2_with fail
  refine (machnew_ok w1 (N := 2) (F := 1) (by omega) (by omega) (by omega) (by omega)).mono ?_
  rintro _ w2 ⟨p2, m2, cb2, rfl, hO2, hg2, hp2, hcb2⟩
  go_wp2_with fail
  refine (vnew_ok w2 (g := 1) (ix := 0) 0 (by omega) (by omega) (by omega) (by omega)).mono ?_
  rintro _ w3 ⟨v1, f1, rfl, hV3, hg3, hv1, hf1⟩
  go_wp2_with fail
  refine (vnew_ok w3 (g := 1) (ix := 1) 0 (by omega) (by omega) (by omega) (by omega)).mono ?_
  rintro _ w4 ⟨v2, f2, rfl, hX4, hg4, hv2, hf2⟩
  have hM4 := ((hM1.grows hg2).grows hg3).grows hg4
  have hO4 := (hO2.grows hg3).grows hg4
  have hV4 := hV3.grows hg4
  have hcc : ∀ i j, i < 2 → j < 2 → cb2 i ≠ cb1 j := fun i j hi hj => by
    have := (hM1.cores j hj).lt
    have := hcb2 i hi
    omega
  have hvv : v1 ≠ v2 := by
    have := hV3.row.lt
    omega
  have hff : f1 ≠ f2 := by
    have := Row.lt (show Row w3 f1 (fileA _) 110 from hV3.file)
    omega
  have hsz : W.heap.size ≤ v1 ∧ W.heap.size ≤ v2 ∧ (∀ i, i < 2 → W.heap.size ≤ cb1 i) ∧ (∀ i, i < 2 → W.heap.size ≤ cb2 i) := by
    have h1 := hg1.size
    have h2 := hg2.size
    have h3 := hg3.size
    exact ⟨by omega, by omega, hcb1, fun i hi => by have := hcb2 i hi; omega⟩
  have HSZ := Lib.hid hsz
  have HCC := Lib.hid hcc
  have hG4 := ((hg1.trans hg2).trans hg3).trans hg4
  have HG4 := Lib.hid hG4
  have he5 := enter_ok (c := k) (rt := 0) hM4 (by omega) (by omega) (by omega) hk2 rfl hV4 (by omega) (by omega) (by omega)
  obtain ⟨bb1, hbb1, hi1⟩ := eql_owner 1 1 f1 f2
  obtain ⟨bb2, hbb2, hi2⟩ := eql_owner 1 1 f2 f1
  obtain ⟨bb3, hbb3, hi3⟩ := eql_owner 1 1 f1 f1
  obtain ⟨bb4, hbb4, hi4⟩ := eql_owner 1 1 f2 f2
  have e1 : bb1 = false := by cases bb1; rfl; exact absurd (hi1.1 rfl).2 (fun e => hff e.symm)
  have e2 : bb2 = false := by cases bb2; rfl; exact absurd (hi2.1 rfl).2 hff
  have e3 : bb3 = true := hi3.2 ⟨rfl, rfl⟩
  have e4 : bb4 = true := hi4.2 ⟨rfl, rfl⟩
  subst e1 e2 e3 e4
  have HB1 := Lib.hid hbb1
  have HB2 := Lib.hid hbb2
  have HB3 := Lib.hid hbb3
  have HB4 := Lib.hid hbb4
  clear hM1 hg1 hp1 hcb1 hO2 hg2 hp2 hcb2 hV3 hg3 hv1 hf1 hg4 hv2 hf2 hcc hsz hG4 hbb1 hbb2 hbb3 hbb4 hi1 hi2 hi3 hi4
  have HM4 := Lib.hid hM4
  have HO4 := Lib.hid hO4
  have HV4 := Lib.hid hV4
  have HX4 := Lib.hid hX4
  clear hM4 hO4 hV4 hX4
  go_wp2_with fail
  refine he5.mono ?_
  rintro _ w5 ⟨rfl, hM5, hV5, hC5⟩
  have hO5 := mach_keep HO4.out hC5 (HM4.out.cores k hk2) (fun i hi => HCC.out i k hi hk2) HV4.out.row
  have hX5 := vc_keep HX4.out hC5 (HM4.out.cores k hk2) HV4.out.row (fun e => hvv e.symm)
  have hG5 : Grows W w5 := hC5.to_grows HG4.out (by have := HSZ.out; simp; exact ⟨this.2.2.1 k hk2, this.1⟩)
  have he6 := enter_ok (c := k) (rt := 0) hO5 (by omega) (by omega) (by omega) hk2 rfl hX5 (by omega) (by omega) (by omega)
  have HM5 := Lib.hid hM5
  have HO5 := Lib.hid hO5
  have HV5 := Lib.hid hV5
  have HX5 := Lib.hid hX5
  have HG5 := Lib.hid hG5
  clear he5 hM5 hV5 hC5 hO5 hX5 hG5 HM4 HO4 HV4 HX4 HG4
  go_wp2_with fail
  refine he6.mono ?_
  rintro _ w6 ⟨rfl, hO6, hX6, hC6⟩
  have hM6 := mach_keep HM5.out hC6 (HO5.out.cores k hk2) (fun i hi e => HCC.out k i hk2 hi e.symm) HX5.out.row
  have hV6 := vc_keep HV5.out hC6 (HO5.out.cores k hk2) HX5.out.row hvv
  have hG6 : Grows W w6 := hC6.to_grows HG5.out (by have := HSZ.out; simp; exact ⟨this.2.2.2 k hk2, this.2.1⟩)
  have hl7 := leave_foreign hO6 (by omega) (by omega) hk2 (if_pos rfl) (regs1_ok 0) hV6 hX6.file HB1.out
  have HM6 := Lib.hid hM6
  have HO6 := Lib.hid hO6
  have HV6 := Lib.hid hV6
  have HX6 := Lib.hid hX6
  have HG6 := Lib.hid hG6
  clear he6 hM6 hO6 hV6 hX6 hC6 hG6 HM5 HO5 HV5 HX5 HG5
  go_wp2_with fail
  refine hl7.mono ?_
  rintro _ w7 ⟨rfl, hg7⟩
  have hM7 := HM6.out.grows hg7
  have hO7 := HO6.out.grows hg7
  have hV7 := HV6.out.grows hg7
  have hX7 := HX6.out.grows hg7
  have hl8 := leave_foreign hM7 (by omega) (by omega) hk2 (if_pos rfl) (regs1_ok 0) hX7 hV7.file HB2.out
  have HM7 := Lib.hid hM7
  have HO7 := Lib.hid hO7
  have HV7 := Lib.hid hV7
  have HX7 := Lib.hid hX7
  have HG7 := Lib.hid (HG6.out.trans hg7)
  clear hl7 hg7 hM7 hO7 hV7 hX7 HM6 HO6 HV6 HX6 HG6
  go_wp2_with fail
  refine hl8.mono ?_
  rintro _ w8 ⟨rfl, hg8⟩
  have hM8 := HM7.out.grows hg8
  have hO8 := HO7.out.grows hg8
  have hV8 := HV7.out.grows hg8
  have hX8 := HX7.out.grows hg8
  have hl9 := leave_ok hM8 (by omega) (by omega) hk2 (if_pos rfl) (regs1_ok 0) hV8 hV8.file HB3.out
  have HM8 := Lib.hid hM8
  have HO8 := Lib.hid hO8
  have HV8 := Lib.hid hV8
  have HX8 := Lib.hid hX8
  have HG8 := Lib.hid (HG7.out.trans hg8)
  clear hl8 hg8 hM8 hO8 hV8 hX8 HM7 HO7 HV7 HX7 HG7
  go_wp2_with fail
  refine hl9.mono ?_
  rintro _ w9 ⟨rfl, hM9, hV9, hC9⟩
  have hO9 := mach_keep HO8.out hC9 (HM8.out.cores k hk2) (fun i hi => HCC.out i k hi hk2) HV8.out.row
  have hX9 := vc_keep HX8.out hC9 (HM8.out.cores k hk2) HV8.out.row (fun e => hvv e.symm)
  have hG9 : Grows W w9 := hC9.to_grows HG8.out (by have := HSZ.out; simp; exact ⟨this.2.2.1 k hk2, this.1⟩)
  have hl10 := leave_ok hO9 (by omega) (by omega) hk2 (if_pos rfl) (regs1_ok 0) hX9 hX9.file HB4.out
  have HG9 := Lib.hid hG9
  clear hl9 hM9 hV9 hC9 hO9 hX9 hG9 HM8 HO8 HV8 HX8 HG8
  go_wp2_with fail
  refine hl10.mono ?_
  rintro _ w10 ⟨rfl, _, _, hC10⟩
  have hG10 : Grows W w10 := hC10.to_grows HG9.out (by have := HSZ.out; simp; exact ⟨this.2.2.2 k hk2, this.2.1⟩)
  have HG10 := Lib.hid hG10
  clear hl10 hC10 hG10
  go_wp2_with fail
  go_ret
  exact ⟨rfl, HG10.out⟩
end Go.Proofs.Ytilefidnjjbboaa
