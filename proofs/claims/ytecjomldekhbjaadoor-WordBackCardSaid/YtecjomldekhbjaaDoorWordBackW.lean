/- The walk of WordBack. -/
import Derived.Test.YtecjomldekhbjaaDoorWord2
import Derived.Test.YtecjomldekhbjaaDoorBytes
namespace Go.Proofs.YtecjomldekhbjaaDoor
open Go Go.RowKit
set_option linter.unusedSimpArgs false
set_option linter.unusedVariables false
theorem back_field (x : Nat) (V : Nat) (a : Int) (hx : x < 4294967296) (ha : 0 ≤ a) (ha2 : a ≤ 31) :
    fieldZ (placeZ x (wrap64 V) a (32 - a)) a (32 - a) = V % 2 ^ (32 - a).toNat := by
  obtain ⟨A, rfl⟩ := Int.eq_ofNat_of_zero_le ha
  have hl : liesB A (32 - A) = true := by simp [liesB]; omega
  have e1 : (32 - (A : Int)).toNat = 32 - A := by omega
  have h1 := field_of_place (x := x) (v := wrap64 V) (a := A) (n := 32 - A) hx (by omega)
  have h2 : wrap64 V % 2 ^ (32 - A) = (V : Int) % 2 ^ (32 - A) := by
    have hd : (2 : Int) ^ (32 - A) ∣ 18446744073709551616 := by
      have : (18446744073709551616 : Int) = 2 ^ 64 := by decide
      rw [this]
      exact ⟨2 ^ (64 - (32 - A)), by rw [← Int.pow_add]; congr 1; omega⟩
    obtain ⟨c, hc⟩ : ∃ c : Int, wrap64 V = V + 18446744073709551616 * c := ⟨-(((V : Int) + 9223372036854775808) / 18446744073709551616), by unfold wrap64; omega⟩
    obtain ⟨d, hd⟩ := hd
    rw [hc, hd, Int.mul_assoc, Int.add_mul_emod_self_left]
  simp only [fieldZ, placeZ, hl, if_true, e1, Int.toNat_natCast]
  rw [← two_pow_cast, ← Int.natCast_ediv, ← two_pow_cast, ← Int.natCast_emod, h1, h2, two_pow_cast, Int.toNat_of_nonneg (Int.emod_nonneg _ (by have := two_pow_pos (32 - A); omega))]
theorem back_out (x : Nat) (v : Int) (a : Int) (hx : x < 4294967296) (ha : 0 < a) (ha2 : a ≤ 31) :
    fieldZ (placeZ x v a (32 - a)) 0 a = fieldZ x 0 a := by
  obtain ⟨A, rfl⟩ := Int.eq_ofNat_of_zero_le (show 0 ≤ a by omega)
  have hl : liesB A (32 - A) = true := by simp [liesB]; omega
  have hl2 : liesB 0 A = true := by simp [liesB]; omega
  have e1 : (32 - (A : Int)).toNat = 32 - A := by omega
  have h1 := field_out_place (x := x) (v := v) (a := A) (n := 32 - A) (b := 0) (m := A) hx (by omega) (by omega)
  simp only [fieldZ, placeZ, hl, hl2, if_true, e1, Int.toNat_natCast]
  have : ((0 : Int).toNat) = 0 := rfl
  rw [this]
  simp only [Nat.pow_zero, Nat.div_one, Int.pow_zero, Int.ediv_one] at *
  rw [← two_pow_cast, ← Int.natCast_emod, h1, Int.natCast_emod]
theorem back_mask (V : Nat) (a : Int) (ha : 0 ≤ a) (ha2 : a ≤ 31) (hV : V < 18446744073709551616) :
    wrap64 (bits .and .u64 (V : Int) (IntKind.u64.wrap (IntKind.u64.wrap (2 ^ (32 - a).toNat) - 1))) = V % 2 ^ (32 - a).toNat := by
  have hn : (32 - a).toNat ≤ 32 := by omega
  rw [mask_u64 (by omega), and_mask_u64 (by omega) (by omega) (by omega)]
  have hp := two_pow_pos (32 - a).toNat
  have h32 : (2 : Int) ^ (32 - a).toNat ≤ 2 ^ 32 := two_pow_le hn
  have h33 : (2 : Int) ^ 32 = 4294967296 := by decide
  have h1 := Int.emod_nonneg (V : Int) (b := 2 ^ (32 - a).toNat) (by omega)
  have h2 := Int.emod_lt_of_pos (V : Int) hp
  exact wrap64_small (by omega) (by omega)
theorem back_div (V X : Nat) (hV : V < 18446744073709551616) : IntKind.u64.wrap (IntKind.u64.wrap (quotZ V ((X : Int) + 1) * ((X : Int) + 1)) + restZ V ((X : Int) + 1)) = V ∧ restZ V ((X : Int) + 1) ≤ X := by
  have h0 : ¬ ((X : Int) + 1 = 0) := by omega
  have h1 := Int.mul_ediv_add_emod (V : Int) ((X : Int) + 1)
  have h2 := Int.emod_nonneg (V : Int) h0
  have h3 := Int.emod_lt_of_pos (V : Int) (show (0 : Int) < X + 1 by omega)
  have h4 : 0 ≤ (V : Int) / (X + 1) := Int.ediv_nonneg (by omega) (by omega)
  have h5 : 0 ≤ ((X : Int) + 1) * ((V : Int) / (X + 1)) := Int.mul_nonneg (by omega) h4
  simp only [quotZ, restZ, if_neg h0]
  rw [Int.mul_comm ((V : Int) / _)]
  rw [wrap_u64_small h5 (by omega), h1, wrap_u64_small (by omega) (by omega)]
  omega
theorem back_load8 (V : Nat) (hV : V < 18446744073709551616) : loadN (leB V 8) = V := by
  unfold loadN
  rw [leB_length, leN_leB, pow256.2.2, Nat.mod_eq_of_lt hV]; rfl
theorem back_load1 (V : Nat) : loadN (leB V 1) = V % 256 := by
  unfold loadN
  rw [leB_length, leN_leB]; rfl
theorem back_load4 (V : Nat) : IntKind.u64.wrap (wrap64 (wrap32 (V : Int))) = (loadN (leB V 4) : Nat) := by
  unfold loadN
  rw [leB_length, leN_leB, pow256.2.1, if_pos rfl, ← sx32_walk (Nat.mod_lt _ (by decide))]
  congr 2
  unfold wrap32
  omega
theorem and255_u64 (V : Nat) (hV : V < 18446744073709551616) : bits .and .u64 (V : Int) 255 = ((V % 256 : Nat) : Int) := by
  have := and_mask_u64 (x := (V : Int)) (n := 8) (by omega) (by omega) (by decide)
  rw [Int.natCast_emod]; exact this
set_option maxHeartbeats 4000000 in
theorem wordBack_walk (x : Int) (wx : (Lit.int .u32 x).wf = true) (v : Int) (wv : (Lit.int .u64 v).wf = true) (at_ : Int) (wa : (Lit.int .i64 at_).wf = true) (w : World) (hT : Widths w) :
    Calls Tryd.prog 7 #[.int .u32 x, .int .u64 v, .int .i64 at_] w fun r w' => r = .returned (.bool true) ∧ Grows w w' := by
  have hx := bounds_u32 wx
  have hv := bounds_u64 wv
  clear wx wv wa
  obtain ⟨X, rfl⟩ := Int.eq_ofNat_of_zero_le hx.1
  obtain ⟨V, rfl⟩ := Int.eq_ofNat_of_zero_le hv.1
  have e31 : bits .and .i64 at_ 31 = at_ % 32 := and_mask_i64 (v := at_) (n := 5) (by decide)
  have a0 : 0 ≤ at_ % 32 := Int.emod_nonneg _ (by decide)
  have a1 : at_ % 32 < 32 := Int.emod_lt_of_pos _ (by decide)
  generalize at_ % 32 = a at *
  have hF1 := back_field X V a (by omega) a0 (by omega)
  rw [← back_mask V a a0 (by omega) (by omega)] at hF1
  have HF1 := Lib.hid hF1
  clear hF1
  have HV : Hid (V < 18446744073709551616) := by show _ < _; omega
  have HD := Lib.hid (back_div V X HV.out)
  have HXX : Hid (0 ≤ (X : Int) ∧ (X : Int) < 4294967296) := by show _ ∧ _; omega
  have HP := Lib.hid (place_lt (x := X) (wrap64 V) a (32 - a) HXX.out.1 HXX.out.2)
  have HB : Hid (0 ≤ (V : Int) ∧ (V : Int) < 18446744073709551616) := by show _ ∧ _; omega
  have HC : Hid (0 ≤ (X : Int) + 1 ∧ (X : Int) + 1 < 18446744073709551616) := by show _ ∧ _; omega
  have HE : Hid (0 < a → fieldZ (placeZ (X : Int) (wrap64 V) a (32 - a)) 0 a = fieldZ X 0 a) := fun h => back_out X _ a (by have := HXX.out; omega) h (by omega)
  have hX4 : (X : Int) < 4294967296 := by omega
  clear hv hx
  by_cases ha : 0 < a
  · have HE1 := Lib.hid (HE.out ha)
    go_enter Tryd.func7, Tryd.ntmps7
    go_wp2_with fail
    refine (place_any _ _ _ _ _ HXX.out).mono ?_
    rintro _ w1 ⟨rfl, g1, rfl⟩
    go_wp2_with fail
    refine (field_any _ _ _ _ HP.out).mono ?_
    rintro _ w1 ⟨rfl, g2, rfl⟩
    rw [HF1.out]
    go_wp2_with fail
    refine (field_any _ _ _ _ HP.out).mono ?_
    rintro _ w1 ⟨rfl, g3, rfl⟩
    rw [HE1.out]
    go_wp2_with fail
    refine (field_any _ _ _ _ HXX.out).mono ?_
    rintro _ w1 ⟨rfl, g4, rfl⟩
    go_wp2_with fail
    refine (store_8 V _ (hT.grows (Grows.of _ _))).mono ?_
    rintro _ w1 ⟨b1, rfl, hg1, hb1, hr1⟩
    have hg1' : Grows w w1 := (Grows.of _ _).trans hg1
    have hT1 := hT.grows hg1'
    rw [leB_length]
    go_wp2_with fail
    refine (load_yes b1 0 8 8 0 8 (leB V 8) w1 hT1 (by omega) (by omega) rfl (by omega) (leB_length _ _) (row_bytes hr1 (leB_lt _ _)) (Row.lt hr1)).mono ?_
    rintro _ w2 ⟨rfl, g5, rfl⟩
    rw [back_load8 V HV.out]
    clear hr1 hb1 hg1
    go_wp2_with fail
    refine (store_1 V _ (hT1.grows (Grows.of _ _))).mono ?_
    rintro _ w3 ⟨b3, rfl, hg3, hb3, hr3⟩
    have hg3' : Grows w w3 := (hg1'.grow _).trans hg3
    have hT3 := hT.grows hg3'
    rw [leB_length]
    clear hT1
    go_wp2_with fail
    refine (load_yes b3 0 1 1 0 1 (leB V 1) w3 hT3 (by omega) (by omega) rfl (by omega) (leB_length _ _) (row_bytes hr3 (leB_lt _ _)) (Row.lt hr3)).mono ?_
    rintro _ w4 ⟨rfl, g6, rfl⟩
    rw [back_load1 V]
    clear hr3 hb3 hg3
    go_wp2_with fail
    refine (store_4 V _ (hT3.grows (Grows.of _ _))).mono ?_
    rintro _ w5 ⟨b5, rfl, hg5, hb5, hr5⟩
    have hg5' : Grows w w5 := (hg3'.grow _).trans hg5
    have hT5 := hT.grows hg5'
    rw [leB_length]
    clear hT3
    go_wp2_with fail
    refine (load_yes b5 0 4 4 0 4 (leB V 4) w5 hT5 (by omega) (by omega) rfl (by omega) (leB_length _ _) (row_bytes hr5 (leB_lt _ _)) (Row.lt hr5)).mono ?_
    rintro _ w6 ⟨rfl, g7, rfl⟩
    rw [← back_load4 V]
    clear hr5 hb5 hg5
    go_wp2_with fail
    refine (divide_any _ _ _ HB.out HC.out).mono ?_
    rintro _ w7 ⟨rfl, g8, rfl⟩
    have e255 : bits .and .u64 (V : Int) 255 = ((V % 256 : Nat) : Int) := and255_u64 V HV.out
    have hd1 := HD.out.1
    have hd2 := HD.out.2
    go_wp2_with fail
    go_ret
    exact ⟨rfl, hg5'.grow _⟩
  · have hd : decide (0 < a) = false := decide_eq_false ha
    clear ha
    go_enter Tryd.func7, Tryd.ntmps7
    go_wp2_with fail
    refine (place_any _ _ _ _ _ HXX.out).mono ?_
    rintro _ w1 ⟨rfl, g1, rfl⟩
    go_wp2_with fail
    refine (field_any _ _ _ _ HP.out).mono ?_
    rintro _ w1 ⟨rfl, g2, rfl⟩
    rw [HF1.out]
    go_wp2_with fail
    refine (store_8 V _ (hT.grows (Grows.of _ _))).mono ?_
    rintro _ w1 ⟨b1, rfl, hg1, hb1, hr1⟩
    have hg1' : Grows w w1 := (Grows.of _ _).trans hg1
    have hT1 := hT.grows hg1'
    rw [leB_length]
    go_wp2_with fail
    refine (load_yes b1 0 8 8 0 8 (leB V 8) w1 hT1 (by omega) (by omega) rfl (by omega) (leB_length _ _) (row_bytes hr1 (leB_lt _ _)) (Row.lt hr1)).mono ?_
    rintro _ w2 ⟨rfl, g5, rfl⟩
    rw [back_load8 V HV.out]
    clear hr1 hb1 hg1
    go_wp2_with fail
    refine (store_1 V _ (hT1.grows (Grows.of _ _))).mono ?_
    rintro _ w3 ⟨b3, rfl, hg3, hb3, hr3⟩
    have hg3' : Grows w w3 := (hg1'.grow _).trans hg3
    have hT3 := hT.grows hg3'
    rw [leB_length]
    clear hT1
    go_wp2_with fail
    refine (load_yes b3 0 1 1 0 1 (leB V 1) w3 hT3 (by omega) (by omega) rfl (by omega) (leB_length _ _) (row_bytes hr3 (leB_lt _ _)) (Row.lt hr3)).mono ?_
    rintro _ w4 ⟨rfl, g6, rfl⟩
    rw [back_load1 V]
    clear hr3 hb3 hg3
    go_wp2_with fail
    refine (store_4 V _ (hT3.grows (Grows.of _ _))).mono ?_
    rintro _ w5 ⟨b5, rfl, hg5, hb5, hr5⟩
    have hg5' : Grows w w5 := (hg3'.grow _).trans hg5
    have hT5 := hT.grows hg5'
    rw [leB_length]
    clear hT3
    go_wp2_with fail
    refine (load_yes b5 0 4 4 0 4 (leB V 4) w5 hT5 (by omega) (by omega) rfl (by omega) (leB_length _ _) (row_bytes hr5 (leB_lt _ _)) (Row.lt hr5)).mono ?_
    rintro _ w6 ⟨rfl, g7, rfl⟩
    rw [← back_load4 V]
    clear hr5 hb5 hg5
    go_wp2_with fail
    refine (divide_any _ _ _ HB.out HC.out).mono ?_
    rintro _ w7 ⟨rfl, g8, rfl⟩
    have e255 : bits .and .u64 (V : Int) 255 = ((V % 256 : Nat) : Int) := and255_u64 V HV.out
    have hd1 := HD.out.1
    have hd2 := HD.out.2
    go_wp2_with fail
    go_ret
    exact ⟨rfl, hg5'.grow _⟩
end Go.Proofs.YtecjomldekhbjaaDoor
