/- The walks of WordFields, WordMath, WordOrder. -/
import Derived.Test.YtecjomldekhbjaaWord2
import Derived.OpenShut
namespace Go.Proofs.Ytecjomldekhbjaa
open Go Go.RowKit
set_option linter.unusedSimpArgs false
set_option linter.unusedVariables false
set_option maxHeartbeats 1000000 in
theorem wordFields_walk (x : Int) (wx : (Lit.int .u32 x).wf = true) (v : Int) (wv : (Lit.int .i64 v).wf = true) (a : Int) (wa : (Lit.int .i64 a).wf = true) (w : World) :
    Calls Try.prog 4 #[.int .u32 x, .int .i64 v, .int .i64 a] w fun r w' => r = .returned (.bool true) ∧ Grows w w' := by
  have hx : 0 ≤ x ∧ x < 4294967296 := by have := bounds_u32 wx; omega
  clear wx wv wa
  go_enter Try.func4, Try.ntmps4
  go_wp2_with fail
  go_loopw [7] (fun i wr => (∃ k : Nat, k ≤ 35 ∧ i = .int .i64 ((k : Int) - 1)) ∧ ∃ g, wr = w.grow g) (fun i _ => (34 - intOf i).toNat)
  case atStart => exact ⟨⟨0, by omega, rfl⟩, .none, (World.grow_none _).symm⟩
  case round =>
    obtain ⟨⟨k, hk, rfl⟩, g0, rfl⟩ := hrel
    by_cases h3 : k < 35
    · obtain ⟨j, hj⟩ : ∃ j : Int, j = (k : Int) - 1 := ⟨_, rfl⟩
      have hj1 : -1 ≤ j := by omega
      have hj2 : j ≤ 33 := by omega
      rw [← hj]
      have HJ := Lib.hid hj
      clear hj
      go_wp2_with fail
      refine (field_any _ _ _ _ hx).mono ?_
      rintro _ w1 ⟨rfl, g1, rfl⟩
      go_wp2_with fail
      refine (rfield_any _ _ _ _ hx).mono ?_
      rintro _ w1 ⟨rfl, g2, rfl⟩
      go_wp2_with fail
      refine (place_any _ _ _ _ _ hx).mono ?_
      rintro _ w1 ⟨rfl, g3, rfl⟩
      go_wp2_with fail
      refine (rplace_any _ _ _ _ _ hx).mono ?_
      rintro _ w1 ⟨rfl, g4, rfl⟩
      go_wp2_with fail
      have := HJ.out
      exact ⟨⟨⟨k + 1, by omega, by rw [show ((k + 1 : Nat) : Int) - 1 = j + 1 by omega]⟩, _, rfl⟩, by simp [intOf]; omega⟩
    · have hk2 : k = 35 := by omega
      subst hk2
      rw [show ((35 : Nat) : Int) - 1 = 34 from rfl]
      go_wp2_with fail
      go_loopw [8] (fun i wr => (∃ k : Nat, k ≤ 67 ∧ i = .int .i64 ((k : Int) - 1)) ∧ ∃ g, wr = w.grow g) (fun i _ => (66 - intOf i).toNat)
      case atStart => exact ⟨⟨0, by omega, rfl⟩, _, rfl⟩
      case round =>
        obtain ⟨⟨k, hk, rfl⟩, g0, rfl⟩ := hrel
        by_cases h3 : k < 67
        · obtain ⟨j, hj⟩ : ∃ j : Int, j = (k : Int) - 1 := ⟨_, rfl⟩
          have hj1 : -1 ≤ j := by omega
          have hj2 : j ≤ 65 := by omega
          rw [← hj]
          have HJ := Lib.hid hj
          clear hj
          go_wp2_with fail
          refine (sign_any _ _ _).mono ?_
          rintro _ w1 ⟨rfl, g1, rfl⟩
          go_wp2_with fail
          refine (rsign_any _ _ _).mono ?_
          rintro _ w1 ⟨rfl, g2, rfl⟩
          go_wp2_with fail
          refine (fits_any _ _ _).mono ?_
          rintro _ w1 ⟨rfl, g3, rfl⟩
          go_wp2_with fail
          refine (rfits_any _ _ _).mono ?_
          rintro _ w1 ⟨rfl, g4, rfl⟩
          go_wp2_with fail
          have := HJ.out
          exact ⟨⟨⟨k + 1, by omega, by rw [show ((k + 1 : Nat) : Int) - 1 = j + 1 by omega]⟩, _, rfl⟩, by simp [intOf]; omega⟩
        · have hk2 : k = 67 := by omega
          subst hk2
          rw [show ((67 : Nat) : Int) - 1 = 66 from rfl]
          go_wp2_with fail
          go_ret
          exact ⟨rfl, Grows.of _ _⟩
set_option maxHeartbeats 1000000 in
theorem wordMath_walk (a : Int) (wa : (Lit.int .u64 a).wf = true) (b : Int) (wb : (Lit.int .u64 b).wf = true) (kind : Int) (wk : (Lit.int .i64 kind).wf = true) (w : World) :
    Calls Try.prog 6 #[.int .u64 a, .int .u64 b, .int .i64 kind] w fun r w' => r = .returned (.bool true) ∧ Grows w w' := by
  have ha : 0 ≤ a ∧ a < 18446744073709551616 := by have := bounds_u64 wa; omega
  have hb : 0 ≤ b ∧ b < 18446744073709551616 := by have := bounds_u64 wb; omega
  clear wa wb wk
  go_enter Try.func6, Try.ntmps6
  go_wp2_with fail
  refine (divide_any _ _ _ ha hb).mono ?_
  rintro _ w1 ⟨rfl, g1, rfl⟩
  go_wp2_with fail
  refine (rdivide_any _ _ _ ha hb).mono ?_
  rintro _ w1 ⟨rfl, g2, rfl⟩
  go_wp2_with fail
  generalize quotZ a b = q
  generalize restZ a b = r
  go_loopw [11] (fun i wr => (∃ k : Nat, k ≤ 5 ∧ i = .int .i64 ((k : Int) - 1)) ∧ ∃ g, wr = w.grow g) (fun i _ => (4 - intOf i).toNat)
  case atStart => exact ⟨⟨0, by omega, rfl⟩, _, rfl⟩
  case round =>
    obtain ⟨⟨k, hk, rfl⟩, g0, rfl⟩ := hrel
    by_cases h3 : k < 5
    · obtain ⟨j, hj⟩ : ∃ j : Int, j = (k : Int) - 1 := ⟨_, rfl⟩
      have hj1 : -1 ≤ j := by omega
      have hj2 : j ≤ 3 := by omega
      rw [← hj]
      have HJ := Lib.hid hj
      clear hj
      go_wp2_with fail
      refine (shift_any _ _ _ _ ha hb).mono ?_
      rintro _ w1 ⟨rfl, g3, rfl⟩
      go_wp2_with fail
      refine (rshift_any _ _ _ _ ha hb).mono ?_
      rintro _ w1 ⟨rfl, g4, rfl⟩
      go_wp2_with fail
      have := HJ.out
      exact ⟨⟨⟨k + 1, by omega, by rw [show ((k + 1 : Nat) : Int) - 1 = j + 1 by omega]⟩, _, rfl⟩, by simp [intOf]; omega⟩
    · have hk2 : k = 5 := by omega
      subst hk2
      rw [show ((5 : Nat) : Int) - 1 = 4 from rfl]
      go_wp2_with fail
      refine (shift_any _ _ _ _ ha hb).mono ?_
      rintro _ w1 ⟨rfl, g3, rfl⟩
      go_wp2_with fail
      refine (rshift_any _ _ _ _ ha hb).mono ?_
      rintro _ w1 ⟨rfl, g4, rfl⟩
      go_wp2_with fail
      refine (less_any _ _ _ _).mono ?_
      rintro _ w1 ⟨rfl, g5, rfl⟩
      go_wp2_with fail
      refine (rless_any _ _ _ _).mono ?_
      rintro _ w1 ⟨rfl, g6, rfl⟩
      go_wp2_with fail
      refine (less_any _ _ _ _).mono ?_
      rintro _ w1 ⟨rfl, g7, rfl⟩
      go_wp2_with fail
      refine (rless_any _ _ _ _).mono ?_
      rintro _ w1 ⟨rfl, g8, rfl⟩
      go_wp2_with fail
      go_ret
      exact ⟨by simp, Grows.of _ _⟩
theorem less_differ (a b : Int) (s : Bool) (ha : 0 ≤ a ∧ a < 18446744073709551616) (hb : 0 ≤ b ∧ b < 18446744073709551616) :
    (!(lessB a b s && lessB b a s) && ((!lessB a b s && !lessB b a s) == (a == b))) = true := by
  have e1 : ∀ x y : Int, (¬ x < y ∧ ¬ y < x) ↔ x = y := by intro x y; omega
  have hw : wrap64 a = wrap64 b ↔ a = b := by unfold wrap64; omega
  cases s
  · simp only [lessB, if_neg Bool.false_ne_true]
    by_cases h1 : a < b
    · have h2 : ¬ b < a := by omega
      have h3 : ¬ a = b := by omega
      simp [h1, h2, h3]
    · by_cases h2 : b < a
      · have h3 : ¬ a = b := by omega
        simp [h1, h2, h3]
      · have h3 : a = b := by omega
        simp [h1, h2, h3]
  · simp only [lessB, if_pos rfl]
    generalize wrap64 a = x at *
    generalize wrap64 b = y at *
    by_cases h1 : x < y
    · have h2 : ¬ y < x := by omega
      have h3 : ¬ a = b := by rw [← hw]; omega
      simp [h1, h2, h3]
    · by_cases h2 : y < x
      · have h3 : ¬ a = b := by rw [← hw]; omega
        simp [h1, h2, h3]
      · have h3 : a = b := by rw [← hw]; omega
        have h4 : x = y := by omega
        simp [h3, h4]
theorem shift_up (a n : Int) (ha : 0 ≤ a ∧ a < 18446744073709551616) : 0 ≤ shiftZ 0 a n ∧ shiftZ 0 a n < 18446744073709551616 := by
  simp only [shiftZ, if_pos rfl]
  exact ⟨Int.emod_nonneg _ (by decide), Int.emod_lt_of_pos _ (by decide)⟩
set_option maxHeartbeats 1000000 in
theorem wordOrder_walk (a : Int) (wa : (Lit.int .u64 a).wf = true) (b : Int) (wb : (Lit.int .u64 b).wf = true) (n : Int) (wn : (Lit.int .u64 n).wf = true) (w : World) :
    Calls Try.prog 5 #[.int .u64 a, .int .u64 b, .int .u64 n] w fun r w' => r = .returned (.bool true) ∧ Grows w w' := by
  have ha : 0 ≤ a ∧ a < 18446744073709551616 := by have := bounds_u64 wa; omega
  have hb : 0 ≤ b ∧ b < 18446744073709551616 := by have := bounds_u64 wb; omega
  have hn : 0 ≤ n ∧ n < 18446744073709551616 := by have := bounds_u64 wn; omega
  clear wa wb wn
  go_enter Try.func5, Try.ntmps5
  go_wp2_with fail
  obtain ⟨W, hW⟩ : ∃ W, W = w.alloc (Obj.cells #[.bool false, .bool true] 4) := ⟨_, rfl⟩
  rw [← hW]
  have hg : Grows w W := by rw [hW]; exact (Grows.refl _).alloc _
  have c0 : ∀ i, W.cell? ⟨w.heap.size, i, none⟩ = #[Value.bool false, .bool true][i]? := by
    intro i; rw [hW, World.cell?_alloc_at _ _ _ _ rfl]
  have s0 : w.heap.size < W.heap.size := by rw [hW]; simp
  clear hW
  go_loopw [15] (fun i wr => (∃ k : Nat, k ≤ 2 ∧ i = .int .i64 k) ∧ ∃ g, wr = W.grow g) (fun i _ => (2 - intOf i).toNat)
  case atStart => exact ⟨⟨0, by omega, rfl⟩, .none, (World.grow_none _).symm⟩
  case round =>
    obtain ⟨⟨k, hk, rfl⟩, g0, rfl⟩ := hrel
    by_cases h3 : k < 2
    · have hs : ∃ s, #[Value.bool false, .bool true][k]? = some (.bool s) := by
        have : k = 0 ∨ k = 1 := by omega
        rcases this with rfl | rfl
        · exact ⟨_, rfl⟩
        · exact ⟨_, rfl⟩
      obtain ⟨s, hs⟩ := hs
      have c1 : W.cell? ⟨w.heap.size, k, none⟩ = some (.bool s) := by rw [c0, hs]
      have hd := less_differ a b s ha hb
      have HD := Lib.hid hd
      clear hd c0 hs
      go_wp2_with fail
      refine (less_any _ _ _ _).mono ?_
      rintro _ w1 ⟨rfl, g1, rfl⟩
      go_wp2_with fail
      refine (less_any _ _ _ _).mono ?_
      rintro _ w1 ⟨rfl, g2, rfl⟩
      have hd := HD.out
      cases hx : lessB a b s <;> cases hy : lessB b a s <;> rw [hx, hy] at hd
      · have hab : (a == b) = true := by simpa using hd
        go_wp2_with fail
        exact ⟨⟨⟨k + 1, by omega, by go_num⟩, _, rfl⟩, by simp [intOf]; omega⟩
      · have hab : (a == b) = false := by simpa using hd
        go_wp2_with fail
        exact ⟨⟨⟨k + 1, by omega, by go_num⟩, _, rfl⟩, by simp [intOf]; omega⟩
      · have hab : (a == b) = false := by simpa using hd
        go_wp2_with fail
        exact ⟨⟨⟨k + 1, by omega, by go_num⟩, _, rfl⟩, by simp [intOf]; omega⟩
      · simp at hd
    · have hk2 : k = 2 := by omega
      subst hk2
      have e := and63_u64 hn.1 hn.2
      have m0 : 0 ≤ n % 64 := Int.emod_nonneg _ (by decide)
      have m1 : n % 64 < 64 := Int.emod_lt_of_pos _ (by decide)
      obtain ⟨m, HM⟩ : ∃ m, Hid (n % 64 = m) := ⟨_, Lib.hid rfl⟩
      rw [HM.out] at e m0 m1
      have hup := shift_up a n ha
      go_wp2_with fail
      refine (shift_any _ _ _ _ ha hn).mono ?_
      rintro _ w1 ⟨rfl, g1, rfl⟩
      have e0 : shiftZ 0 a n = a * 2 ^ m.toNat % 18446744073709551616 := by simp [shiftZ, HM.out]
      have E1 : Hid (shiftZ 1 (shiftZ 0 a n) n = IntKind.u64.wrap (a * 2 ^ m.toNat) / 2 ^ m.toNat) := by show _ = _; rw [e0]; simp [shiftZ, HM.out, IntKind.wrap_u64]
      clear e0
      go_wp2_with fail
      refine (shift_any _ _ _ _ hup hn).mono ?_
      rintro _ w1 ⟨rfl, g2, rfl⟩
      rw [E1.out]
      go_wp2_with fail
      refine (shift_any _ _ _ _ ha hn).mono ?_
      rintro _ w1 ⟨rfl, g3, rfl⟩
      have E2 : shiftZ 2 a n = IntKind.u64.wrap (wrap64 a / 2 ^ m.toNat) := by simp [shiftZ, HM.out]
      rw [E2]
      clear E2
      have hn2 : 0 ≤ IntKind.u64.wrap (n + 64) ∧ IntKind.u64.wrap (n + 64) < 18446744073709551616 := by
        rw [IntKind.wrap_u64]; exact ⟨Int.emod_nonneg _ (by decide), Int.emod_lt_of_pos _ (by decide)⟩
      have E3 : Hid (shiftZ 1 a (IntKind.u64.wrap (n + 64)) = a / 2 ^ m.toNat) := by
        have e3 : IntKind.u64.wrap (n + 64) % 64 = m := by rw [IntKind.wrap_u64]; have := HM.out; omega
        show _ = _
        simp [shiftZ, e3]
      go_wp2_with fail
      refine (shift_any _ _ _ _ ha hn2).mono ?_
      rintro _ w1 ⟨rfl, g4, rfl⟩
      rw [E3.out]
      go_wp2_with fail
      go_ret
      exact ⟨by simp, hg.grow _⟩
end Go.Proofs.Ytecjomldekhbjaa
