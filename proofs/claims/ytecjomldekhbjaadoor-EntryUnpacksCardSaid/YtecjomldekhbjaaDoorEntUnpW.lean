/- The walks of EntryUnpacks and EntryBack. -/
import Derived.Test.YtecjomldekhbjaaDoorEntU
import Derived.Test.YtecjomldekhbjaaDoorEntS
namespace Go.Proofs.YtecjomldekhbjaaDoor
open Go Go.RowKit
set_option linter.unusedSimpArgs false
set_option linter.unusedVariables false
theorem ne_entry (a b c d e f g : Bool) (n : Int) (w : World) :
   (binOp .neq 29 (.agg #[.bool a, .bool b, .bool c, .bool d, .bool e, .bool f, .bool g, .int .i64 n]) (.agg #[.bool a, .bool b, .bool c, .bool d, .bool e, .bool f, .bool g, .int .i64 n])).run Tryd.prog w =
   .ok (.bool false) w := by
  simp [go_sem, ite_okb]
  try rfl
theorem unpA_shape (v : Nat) : ∃ (a b c d e f g : Bool) (n : Int), unpA v = #[.bool a, .bool b, .bool c, .bool d, .bool e, .bool f, .bool g, .int .i64 n] := by
  unfold unpA
  split
  · rw [upTo7]; exact ⟨_, _, _, _, _, _, _, _, rfl⟩
  · exact ⟨_, _, _, _, _, _, _, _, rfl⟩
set_option maxHeartbeats 4000000 in
theorem entryUnpacks_walk (v : Int) (wv : (Lit.int .u64 v).wf = true) (a : Int) (_ : (Lit.int .i64 a).wf = true) (b : Int) (_ : (Lit.int .i64 b).wf = true) (w : World) (hT : Places w) :
    Calls Tryd.prog 5 #[.int .u64 v, .int .i64 a, .int .i64 b] w fun r w' => r = .returned (.bool true) ∧ Grows w w' := by
  obtain ⟨hv0, hv1⟩ := bounds_u64 wv
  clear wv
  obtain ⟨V, rfl⟩ := Int.eq_ofNat_of_zero_le hv0
  have hV : V < 18446744073709551616 := by omega
  have hv2 : (V : Int) < 18446744073709551616 := by omega
  have HV := Lib.hid (And.intro hv0 (And.intro hv2 hV))
  clear hv0 hv1 hv2 hV
  obtain ⟨x0, x1, x2, x3, x4, x5, x6, x7, hA⟩ := unpA_shape V
  have HA := Lib.hid hA
  clear hA
  have he := eq_rentry
  obtain ⟨S, hS⟩ : ∃ S : Value, S = (if (V : Int) < 262144 then .tuple #[.int .i64 ((V : Int) / 8192), .int .i64 ((V : Int) / 256 % 32), .int .i64 ((V : Int) % 256), .bool true] else .tuple #[.int .i64 0, .int .i64 0, .int .i64 0, .bool false]) := ⟨_, rfl⟩
  have hSS : ∃ p q r s, S = .tuple #[.int .i64 p, .int .i64 q, .int .i64 r, .bool s] := by
    rw [hS]; split <;> exact ⟨_, _, _, _, rfl⟩
  obtain ⟨p, q, r, s, hSS⟩ := hSS
  rw [hSS] at hS
  have HS := Lib.hid hS.symm
  clear hSS hS
  have hsp := Lib.hid (fun w' => split_any (V : Int) HV.out.1 HV.out.2.1 w')
  have hrs := Lib.hid (fun w' => rsplit_any (V : Int) HV.out.1 HV.out.2.1 w')
  have hun := Lib.hid (fun w' hT => unpack_any V HV.out.2.2 w' hT)
  have hru := Lib.hid (fun w' => runpack_any V HV.out.2.2 w')
  go_enter Tryd.func5, Tryd.ntmps5
  go_wp2_with fail
  refine (hun.out _ hT).mono ?_
  rintro _ w1 ⟨rfl, g1, rfl⟩
  rw [HA.out]
  go_wp2_with fail
  refine (hru.out _).mono ?_
  rintro _ w2 ⟨rfl, g2, rfl⟩
  rw [HA.out]
  go_wp2_with fail
  obtain ⟨W, hW⟩ : ∃ W, W = (((w.grow g1).alloc (Obj.cells #[.bool x0, .bool x1, .bool x2, .bool x3, .bool x4, .bool x5, .bool x6, .int .i64 x7] 29)).grow g2).alloc (Obj.cells #[.bool x0, .bool x1, .bool x2, .bool x3, .bool x4, .bool x5, .bool x6, .int .i64 x7] 30) := ⟨_, rfl⟩
  rw [← hW]
  obtain ⟨B1, hB1⟩ : ∃ B, B = w.heap.size + g1.size := ⟨_, rfl⟩
  obtain ⟨B2, hB2⟩ : ∃ B, B = B1 + 1 + g2.size := ⟨_, rfl⟩
  rw [← hB1, ← hB2]
  have hg : Grows w W := by rw [hW]; exact (((Grows.of _ _).alloc _).grow _).alloc _
  have hR1 : Row W B1 #[.bool x0, .bool x1, .bool x2, .bool x3, .bool x4, .bool x5, .bool x6, .int .i64 x7] 29 := by
    rw [hW]; exact (Row.new_at _ _ _ (by rw [hB1]; simp)).grows (((Grows.refl _).grow _).alloc _)
  have hR2 : Row W B2 #[.bool x0, .bool x1, .bool x2, .bool x3, .bool x4, .bool x5, .bool x6, .int .i64 x7] 30 := by
    rw [hW]; exact Row.new_at _ _ _ (by rw [hB2, hB1]; simp)
  clear hW hB1 hB2
  have c1 := hR1.cell
  have l1 := hR1.lt
  have c2 := hR2.cell
  have l2 := hR2.lt
  have HR := Lib.hid (And.intro hR1 hR2)
  clear hR1 hR2
  refine (hsp.out _).mono ?_
  rintro _ w3 ⟨rfl, g3, rfl⟩
  rw [HS.out]
  go_wp2_with fail
  refine (hrs.out _).mono ?_
  rintro _ w4 ⟨rfl, g4, rfl⟩
  rw [HS.out]
  go_wp2_with fail
  refine (join_any _ _ _ _).mono ?_
  rintro _ w5 ⟨rfl, g5, rfl⟩
  go_wp2_with fail
  refine (rjoin_any _ _ _ _).mono ?_
  rintro _ w6 ⟨rfl, g6, rfl⟩
  generalize joinZ a b ((V : Int) % 300) = JZ
  generalize joinE a b ((V : Int) % 300) = JE
  generalize unpE V = E
  go_wp2_with fail
  refine (names05_any _).mono ?_
  rintro _ w7 ⟨rfl, g7, rfl⟩
  go_wp2_with fail
  go_ret
  exact ⟨by simp, hg.grow _⟩
theorem flags_bits (a b c d e f g : Bool) (N : Nat) (hN : N < 65536) : ∀ V, V = N * 1024 + flagsN a b c d e f g →
    bitN V 0 = a ∧ bitN V 1 = b ∧ bitN V 2 = c ∧ bitN V 3 = d ∧ bitN V 4 = e ∧ bitN V 5 = f ∧ bitN V 6 = g ∧ V / 1024 % 65536 = N ∧ V % 2 = bit1 a := by
  intro V hV
  have la := bit1_le a; have lb := bit1_le b; have lc := bit1_le c; have ld := bit1_le d; have le := bit1_le e; have lf := bit1_le f; have lg := bit1_le g
  unfold flagsN at hV
  have hb : ∀ (x : Bool) (k : Nat), V / 2 ^ k % 2 = bit1 x → bitN V k = x := by
    intro x k h; unfold bitN; rw [h]; cases x <;> rfl
  refine ⟨hb _ _ ?_, hb _ _ ?_, hb _ _ ?_, hb _ _ ?_, hb _ _ ?_, hb _ _ ?_, hb _ _ ?_, ?_, ?_⟩ <;> (try simp only [Nat.reducePow]) <;> omega
theorem back_unp {a b c d e f g : Bool} {n : Int} {V : Nat} (hr : rightB a b c d e f g n = true) (hV : (V : Int) = packZ a b c d e f g n) :
    unpA V = #[.bool a, .bool b, .bool c, .bool d, .bool e, .bool f, .bool g, .int .i64 n] ∧ unpE V = 0 ∧ V < 18446744073709551616 := by
  obtain ⟨n0, n1⟩ := rightB_frame hr
  obtain ⟨N, rfl⟩ := Int.eq_ofNat_of_zero_le n0
  have hV2 : V = N * 1024 + flagsN a b c d e f g := by
    simp only [packZ, hr, if_true] at hV; omega
  have hl := flTo_lt a b c d e f g (k := 7) (by omega)
  have hl2 : flagsN a b c d e f g < 128 := hl
  obtain ⟨h0, h1, h2, h3, h4, h5, h6, h7, h8⟩ := flags_bits a b c d e f g N (by omega) V hV2
  refine ⟨?_, ?_, by omega⟩
  · unfold unpA goodB
    cases a
    · simp [rightB] at hr
      obtain ⟨rfl, rfl, rfl, rfl, rfl, rfl, hN⟩ := hr
      have : N = 0 := by omega
      subst this
      rw [if_neg (by rw [h8]; simp [bit1])]
      rfl
    · rw [upTo7, h0, h1, h2, h3, h4, h5, h6, h7, if_pos]
      refine ⟨by rw [h8]; rfl, ?_⟩
      rw [← hV]; simp [packE, hr]
  · unfold unpE goodB
    cases a
    · rw [if_pos (Or.inl (by rw [h8]; rfl))]
    · rw [h0, h1, h2, h3, h4, h5, h6, h7, ← hV, if_pos]
      right; simp [packE, hr]
theorem join_split (v : Int) (h0 : 0 ≤ v) (h : v < 262144) : joinZ (v / 8192) (v / 256 % 32) (v % 256) = v ∧ joinE (v / 8192) (v / 256 % 32) (v % 256) = 0 := by
  unfold joinZ joinE
  have : 0 ≤ v / 8192 ∧ v / 8192 ≤ 31 ∧ 0 ≤ v / 256 % 32 ∧ v / 256 % 32 ≤ 31 ∧ 0 ≤ v % 256 ∧ v % 256 ≤ 255 := by omega
  rw [if_pos this, if_pos this]
  exact ⟨by omega, rfl⟩
theorem pack_one : packZ true true true false false false false 3 = 3079 ∧ packE true true true false false false false 3 = 0 := by decide
set_option maxHeartbeats 4000000 in
theorem entryBack_walk (a b c d e f g : Bool) (n : Int) (_ : (Lit.int .i64 n).wf = true) (v : Int) (wv : (Lit.int .u64 v).wf = true) (w : World) (hT : Places w) :
    Calls Tryd.prog 6 #[.agg #[.bool a, .bool b, .bool c, .bool d, .bool e, .bool f, .bool g, .int .i64 n], .int .u64 v] w fun r w' => r = .returned (.bool true) ∧ Grows w w' := by
  obtain ⟨hv0, hv1⟩ := bounds_u64 wv
  clear wv
  have hv2 : v < 18446744073709551616 := by omega
  have HV := Lib.hid (And.intro hv0 hv2)
  clear hv0 hv1 hv2
  have hsp := Lib.hid (fun w' => split_any v HV.out.1 HV.out.2 w')
  have hne := ne_entry a b c d e f g n
  go_enter Tryd.func6, Tryd.ntmps6
  go_wp2_with fail
  refine (pack_any _ _ _ _ _ _ _ _ _ (hT.grows ((Grows.refl _).alloc _))).mono ?_
  rintro _ w1 ⟨rfl, g1, rfl⟩
  rw [pack_one.1, pack_one.2]
  go_wp2_with fail
  refine (pack_any _ _ _ _ _ _ _ _ _ (hT.grows (((Grows.refl _).alloc _).grow _))).mono ?_
  rintro _ w2 ⟨rfl, g2, rfl⟩
  obtain ⟨W, hW⟩ : ∃ W, W = (w.alloc (Obj.cells #[.bool a, .bool b, .bool c, .bool d, .bool e, .bool f, .bool g, .int .i64 n] 29)).grow (g1.join g2) := ⟨_, rfl⟩
  first | rw [← hW] | (rw [World.grow_grow, ← hW])
  have hg : Grows w W := by rw [hW]; exact ((Grows.refl _).alloc _).grow _
  have hR : Row W w.heap.size #[.bool a, .bool b, .bool c, .bool d, .bool e, .bool f, .bool g, .int .i64 n] 29 := by
    rw [hW]; exact (Row.new_at _ _ _ rfl).grows ((Grows.refl _).grow _)
  clear hW
  have cR := hR.cell
  have lR := hR.lt
  cases hr : rightB a b c d e f g n
  · have hE : packE a b c d e f g n = 10 := by simp [packE, hr]
    rw [hE]
    clear hE
    by_cases h5 : v < 262144
    · have hS := hsp.out
      rw [if_pos h5] at hS
      have hj := join_split v HV.out.1 h5
      have HS := Lib.hid hS
      have HJ := Lib.hid hj
      clear hS hj
      go_wp2_with fail
      refine (HS.out _).mono ?_
      rintro _ w4 ⟨rfl, g4, rfl⟩
      go_wp2_with fail
      refine (join_any _ _ _ _).mono ?_
      rintro _ w5 ⟨rfl, g5, rfl⟩
      rw [HJ.out.1, HJ.out.2]
      go_wp2_with fail
      go_ret
      exact ⟨by simp, (hg).grow _⟩
    · have hS := hsp.out
      rw [if_neg h5] at hS
      have HS := Lib.hid hS
      clear hS
      go_wp2_with fail
      refine (HS.out _).mono ?_
      rintro _ w4 ⟨rfl, g4, rfl⟩
      go_wp2_with fail
      go_ret
      exact ⟨by simp, (hg).grow _⟩
  · have hE : packE a b c d e f g n = 0 := by simp [packE, hr]
    obtain ⟨V, hV⟩ : ∃ V : Nat, (V : Int) = packZ a b c d e f g n := by
      have := rightB_frame hr
      refine ⟨(packZ a b c d e f g n).toNat, Int.toNat_of_nonneg ?_⟩
      simp only [packZ, hr, if_true]; omega
    obtain ⟨hu1, hu2, hu3⟩ := back_unp hr hV
    rw [hE, ← hV]
    have HU := Lib.hid (And.intro hu1 (And.intro hu2 hu3))
    have hun := Lib.hid (fun w' hT => unpack_any V HU.out.2.2 w' hT)
    clear hE hV hu1 hu2 hu3
    go_wp2_with fail
    refine (hun.out _ (hT.grows hg)).mono ?_
    rintro _ w3 ⟨rfl, g3, rfl⟩
    have cR2 : ∀ o i, ((W.grow g3).alloc o).cell? ⟨w.heap.size, i, none⟩ = #[Value.bool a, .bool b, .bool c, .bool d, .bool e, .bool f, .bool g, .int .i64 n][i]? := fun o i => (hR.grows (((Grows.refl _).grow _).alloc o)).cell i
    rw [HU.out.1, HU.out.2.1]
    go_wp2_with fail
    by_cases h5 : v < 262144
    · have hS := hsp.out
      rw [if_pos h5] at hS
      have hj := join_split v HV.out.1 h5
      have HS := Lib.hid hS
      have HJ := Lib.hid hj
      clear hS hj
      go_wp2_with fail
      refine (HS.out _).mono ?_
      rintro _ w4 ⟨rfl, g4, rfl⟩
      go_wp2_with fail
      refine (join_any _ _ _ _).mono ?_
      rintro _ w5 ⟨rfl, g5, rfl⟩
      rw [HJ.out.1, HJ.out.2]
      go_wp2_with fail
      go_ret
      exact ⟨by simp, ((hg.grow _).alloc _).grow _⟩
    · have hS := hsp.out
      rw [if_neg h5] at hS
      have HS := Lib.hid hS
      clear hS
      go_wp2_with fail
      refine (HS.out _).mono ?_
      rintro _ w4 ⟨rfl, g4, rfl⟩
      go_wp2_with fail
      go_ret
      exact ⟨by simp, ((hg.grow _).alloc _).grow _⟩
end Go.Proofs.YtecjomldekhbjaaDoor
