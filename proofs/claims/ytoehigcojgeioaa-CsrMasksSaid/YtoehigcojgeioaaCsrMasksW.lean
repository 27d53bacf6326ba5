/- The walk of CsrMasks. -/
import Derived.Test.YtoehigcojgeioaaCsrW
import Derived.Laws.Closers25b
import Derived.Laws.Bits64b
namespace Go.Proofs.Ytoehigcojgeioaa
open Go Go.RowKit
set_option linter.unusedSimpArgs false
set_option linter.unusedVariables false
def wasA (x : Nat → Int) : Array Value := #[.int .u64 (x 0), .int .u64 (x 1), .int .u64 (x 2), .int .u64 (x 3), .int .u64 (x 4), .int .u64 (x 5), .int .u64 (x 6), .int .u64 (x 7), .int .u64 (x 8), .int .u64 (x 9), .int .u64 (x 10), .int .u64 (x 11)]
theorem was_at (x : Nat → Int) {n : Nat} (hn : n < 12) : (wasA x)[n]? = some (.int .u64 (x n)) := by
  have : n = 0 ∨ n = 1 ∨ n = 2 ∨ n = 3 ∨ n = 4 ∨ n = 5 ∨ n = 6 ∨ n = 7 ∨ n = 8 ∨ n = 9 ∨ n = 10 ∨ n = 11 := by omega
  rcases this with rfl | rfl | rfl | rfl | rfl | rfl | rfl | rfl | rfl | rfl | rfl | rfl <;> rfl
theorem or_zero_and (v m : Int) : bits .or .u64 (bits .and .u64 v m) 0 = bits .and .u64 v m := or_zero_u64 (bits_lo_u64 _ _ _) (by have := bits_hi_u64 .and v m; omega)
theorem or_comm_u64 (a b : Int) : bits .or .u64 a b = bits .or .u64 b a := by
  unfold bits
  simp [BitVec.or_comm]
theorem and_not3 (v : Int) : bits .and .u64 v 18446744073709551612 = bits .andNot .u64 v 3 := by
  unfold bits
  rfl
theorem and_all (v : Int) (h0 : 0 ≤ v) (h1 : v < 18446744073709551616) : bits .and .u64 v 18446744073709551615 = v := by
  have := and_mask_u64 (x := v) (n := 64) h0 h1 (by omega)
  rw [show (2 : Int) ^ 64 - 1 = 18446744073709551615 from rfl] at this
  rw [this, show (2 : Int) ^ 64 = 18446744073709551616 from rfl]; omega
theorem and_zero (v : Int) : bits .and .u64 v 0 = 0 := by
  unfold bits
  simp
  try rfl
theorem and_top (v : Int) (h0 : 0 ≤ v) (h1 : v < 18446744073709551616) : (bits .and .u64 v 9223372036854775808 = 0 ↔ v / 9223372036854775808 = 0) := by
  obtain ⟨V, rfl⟩ := Int.eq_ofNat_of_zero_le h0
  have e := bits_and_u64_nat V 9223372036854775808 (by omega) (by omega)
  rw [show ((9223372036854775808 : Nat) : Int) = 9223372036854775808 from rfl] at e
  rw [e]
  have hb : (V &&& 9223372036854775808).testBit 63 = V.testBit 63 := by
    rw [Nat.testBit_and, show (9223372036854775808 : Nat) = 2 ^ 63 from rfl, Nat.testBit_two_pow_self, Bool.and_true]
  constructor
  · intro h
    have h0 : V &&& 9223372036854775808 = 0 := by exact_mod_cast h
    rw [h0, Nat.zero_testBit] at hb
    have hlt : V < 2 ^ 63 := by
      rcases Nat.lt_or_ge V (2 ^ 63) with h' | h'
      · exact h'
      · have : V.testBit 63 = true := by
          rw [Nat.testBit_eq_decide_div_mod_eq]
          have : V / 2 ^ 63 = 1 := by omega
          rw [this]; rfl
        rw [this] at hb; cases hb
    omega
  · intro h
    have hlt : V < 2 ^ 63 := by omega
    have : V &&& 9223372036854775808 = 0 := by
      apply Nat.eq_of_testBit_eq
      intro i
      rw [Nat.testBit_and, show (9223372036854775808 : Nat) = 2 ^ 63 from rfl, Nat.testBit_two_pow, Nat.zero_testBit]
      by_cases hi : 63 = i
      · subst hi; rw [Nat.testBit_lt_two_pow hlt]; rfl
      · simp [hi]
    rw [this]; rfl
set_option maxHeartbeats 4000000 in
theorem masks_law (n v : Int) (hv0 : 0 ≤ v) (hv1 : v < 18446744073709551616) (x : Nat → Int) (w : World) :
    Calls Try.prog 4 #[.int .i64 n, .int .u64 v, .agg (wasA x)] w fun r w' => r = .returned (.bool true) ∧ Grows w w' := by
  have HV := Lib.hid (And.intro hv0 hv1)
  clear hv0 hv1
  go_enter Try.func4, Try.ntmps4
  unfold wasA
  go_wp2_with fail
  refine (new_any (by decide) _).mono ?_
  rintro _ w1 ⟨rfl, hF1, hg1⟩
  go_wp2_with fail
  obtain ⟨N, hN, hN12⟩ : ∃ N : Nat, (wrap64 (n.tmod 12 + 12)).tmod 12 = N ∧ N < 12 := by
    have h1 := Int.tmod_lt_of_pos n (b := 12) (by omega)
    have h2 := Int.lt_tmod_of_pos n (b := 12) (by omega)
    have h3 : wrap64 (n.tmod 12 + 12) = n.tmod 12 + 12 := wrap64_small (by omega) (by omega)
    rw [h3]
    refine ⟨((n.tmod 12 + 12).tmod 12).toNat, ?_, ?_⟩
    · rw [Int.toNat_of_nonneg (Int.tmod_nonneg _ (by omega))]
    · have := Int.tmod_lt_of_pos (n.tmod 12 + 12) (b := 12) (by omega)
      omega
  rw [hN]
  clear hN
  have hA : Row w1 w.heap.size (wasA x) 35 := (Row.new_at w _ _ rfl).grows hg1
  have hg : Grows w w1 := ((Grows.refl w).alloc _).trans hg1
  have hF : File w1 (w.heap.size + 1) (updR (fun _ => 0) 11 3) := by simpa using hF1
  clear hF1 hg1
  obtain ⟨b0, hb0⟩ : ∃ b, b = w.heap.size := ⟨_, rfl⟩
  obtain ⟨b, hb⟩ : ∃ b, b = w.heap.size + 1 := ⟨_, rfl⟩
  rw [← hb, ← hb0]
  rw [← hb] at hF
  rw [← hb0] at hA
  have hn : b0 ≠ b := by omega
  have HB : Hid (w.heap.size ≤ b) := Lib.hid (by omega)
  clear hb hb0
  go_loopw [8] (fun i wr => (∃ (k : Nat) (r : Nat → Int), k ≤ 12 ∧ i = .int .i64 k ∧ File wr b r ∧ ∀ j, j < k → r j = x j) ∧ Row wr b0 (wasA x) 35 ∧ Grows w wr) (fun i _ => (12 - intOf i).toNat)
  case atStart => exact ⟨⟨0, _, by omega, rfl, hF, fun j h => absurd h (by omega)⟩, hA, hg⟩
  case round =>
    obtain ⟨⟨k, r, hk, rfl, hF', hr⟩, hA', hg'⟩ := hrel
    clear hF hA hg
    by_cases hlt : k < 12
    · have cA : wr.cell? ⟨b0, k, none⟩ = some (.int .u64 (x k)) := by rw [hA'.cell, was_at x hlt]
      have lA := hA'.lt
      have HR := Lib.hid hr
      clear hr
      go_wp2_with fail
      refine (set_any hF' hlt _).mono ?_
      rintro _ w2 ⟨rfl, hF2, hT2⟩
      have hA2 := Row_turns hA' hn hT2
      have hg2 := Grows_turns hg' HB.out hT2
      clear hF' hT2 hA' hg' cA lA
      go_wp2_with fail
      refine ⟨⟨⟨k + 1, _, by omega, by simp, hF2, fun j hj => ?_⟩, hA2, hg2⟩, by simp [intOf]; omega⟩
      unfold updR
      by_cases hj' : j = k
      · rw [if_pos hj', hj']
      · rw [if_neg hj']; exact HR.out j (by omega)
    · have : k = 12 := by omega
      subst this
      go_wp2_with fail
      refine (write_kern hF' hN12 v).mono ?_
      rintro _ w2 ⟨rfl, hF2, hT2⟩
      have hA2 := Row_turns hA' hn hT2
      have hg2 := Grows_turns hg' HB.out hT2
      have hr' : ∀ j, j < 12 → (j ≠ N ∨ writeE N ≠ 0) → writeR r N v j = x j := by
        intro j hj hd
        unfold writeR
        split
        · rename_i he
          have : j ≠ N := by rcases hd with h | h; exact h; exact absurd he h
          unfold updR; rw [if_neg this]; exact hr j hj
        · exact hr j hj
      obtain ⟨E, hE⟩ : ∃ E, E = writeE N := ⟨_, rfl⟩
      obtain ⟨R, hR⟩ : ∃ R, R = writeR r N v := ⟨_, rfl⟩
      rw [← hE]
      rw [← hE, ← hR] at hr'
      rw [← hR] at hF2
      have hRN : E = 0 → R N = writeZ N v (x N) := by
        intro h0
        rw [hR]; unfold writeR; rw [if_pos (by rw [← hE]; exact h0)]; unfold updR; rw [if_pos rfl, hr N hN12]
      have HE := Lib.hid hE
      have HR := Lib.hid hr'
      have HN := Lib.hid hRN
      clear hE hR hr' hRN hr hF' hA' hg' hT2
      go_wp2_with fail
      go_loopw [10] (fun i wr => (∃ (k : Nat), k ≤ 12 ∧ i = .int .i64 k) ∧ Grows w2 wr) (fun i _ => (12 - intOf i).toNat)
      case atStart => exact ⟨⟨0, by omega, rfl⟩, Grows.refl _⟩
      case round =>
        obtain ⟨⟨k, hk, rfl⟩, hgr⟩ := hrel
        have hF3 := hF2.grows hgr
        have hA3 := hA2.grows hgr
        have lA := hA3.lt
        by_cases hlt : k < 12
        · have cA : wr.cell? ⟨b0, k, none⟩ = some (.int .u64 (x k)) := by rw [hA3.cell, was_at x hlt]
          by_cases hkN : k = N
          · subst hkN
            by_cases h0 : E = 0
            · have h0' : (E != 0) = false := by simp [h0]
              have hget : ∀ g, Calls Try.prog 10 #[.pointer (some ⟨b, 0, none⟩), .int .i64 k] (wr.grow g) fun e w' => e = .returned (.int .u64 (R k)) ∧ ∃ h, w' = wr.grow h := fun g => (get_any (hF3.grows (Grows.of _ g)) hlt).mono (fun _ _ ⟨he, hw⟩ => ⟨he, _, hw⟩)
              go_wp2_with fail
              refine wp_region_grow (by kernel_rfl) (by kernel_rfl) ?_
              repeat (go_big_quiet_step ((go_at_call 10; exact hget _)))
              refine wpQuiet_nil ?_
              intro _ hw'
              obtain ⟨g, rfl⟩ := hw'
              go_wp2_with fail
              exact ⟨⟨⟨k + 1, by omega, by simp⟩, hgr.grow _⟩, by simp [intOf]; omega⟩
            · have h0' : (E != 0) = true := by simp [h0]
              have hk' := HR.out k hlt (Or.inr h0)
              have hget : ∀ g, Calls Try.prog 10 #[.pointer (some ⟨b, 0, none⟩), .int .i64 k] (wr.grow g) fun e w' => e = .returned (.int .u64 (x k)) ∧ ∃ h, w' = wr.grow h := fun g => (get_any (hF3.grows (Grows.of _ g)) hlt).mono (fun _ _ ⟨he, hw⟩ => ⟨by rw [he, hk'], _, hw⟩)
              clear hk' h0
              go_wp2_with fail
              refine wp_region_grow (by kernel_rfl) (by kernel_rfl) ?_
              repeat (go_big_quiet_step ((go_at_call 10; exact hget _)))
              refine wpQuiet_nil ?_
              intro _ hw'
              obtain ⟨g, rfl⟩ := hw'
              go_wp2_with fail
              exact ⟨⟨⟨k + 1, by omega, by simp⟩, hgr.grow _⟩, by simp [intOf]; omega⟩
          · have hne : ((k : Int) != (N : Int)) = true := by simp; omega
            have hk' := HR.out k hlt (Or.inl hkN)
            have hget : ∀ g, Calls Try.prog 10 #[.pointer (some ⟨b, 0, none⟩), .int .i64 k] (wr.grow g) fun e w' => e = .returned (.int .u64 (x k)) ∧ ∃ h, w' = wr.grow h := fun g => (get_any (hF3.grows (Grows.of _ g)) hlt).mono (fun _ _ ⟨he, hw⟩ => ⟨by rw [he, hk'], _, hw⟩)
            clear hk'
            go_wp2_with fail
            refine wp_region_grow (by kernel_rfl) (by kernel_rfl) ?_
            repeat (go_big_quiet_step ((go_at_call 10; exact hget _)))
            refine wpQuiet_nil ?_
            intro _ hw'
            obtain ⟨g, rfl⟩ := hw'
            go_wp2_with fail
            exact ⟨⟨⟨k + 1, by omega, by simp⟩, hgr.grow _⟩, by simp [intOf]; omega⟩
        · have : k = 12 := by omega
          subst this
          go_wp2_with fail
          refine (get_any hF3 hN12).mono ?_
          rintro _ w4 ⟨rfl, hw⟩
          rw [hw]
          clear hw w4
          have : N = 0 ∨ N = 1 ∨ N = 2 ∨ N = 3 ∨ N = 4 ∨ N = 5 ∨ N = 6 ∨ N = 7 ∨ N = 8 ∨ N = 9 ∨ N = 10 ∨ N = 11 := by omega
          rcases this with rfl | rfl | rfl | rfl | rfl | rfl | rfl | rfl | rfl | rfl | rfl | rfl
          · have hE : E = writeE 0 := HE.out
            have hR := HN.out
            have hE0 : E = 0 := hE
            have hR0 : R 0 = bits .and .u64 v 290 := by rw [hR hE0]; exact or_zero_and v 290
            rw [hR0, hE0]
            clear hE hR hE0 hR0
            go_wp2_with fail
            go_ret
            exact ⟨by simp, hg2.trans hgr⟩
          · have hE : E = writeE 1 := HE.out
            have hR := HN.out
            have hE0 : E = 0 := hE
            have hR0 : R 1 = bits .and .u64 v 546 := by rw [hR hE0]; exact or_zero_and v 546
            rw [hR0, hE0]
            clear hE hR hE0 hR0
            go_wp2_with fail
            go_ret
            exact ⟨by simp, hg2.trans hgr⟩
          · have hE : E = writeE 2 := HE.out
            have hR := HN.out
            have hE0 : E = 0 := hE
            have hR0 : R 2 = bits .or .u64 (bits .andNot .u64 (x 2) 2) (bits .and .u64 v 2) := by rw [hR hE0]; exact or_comm_u64 _ _
            rw [hR0, hE0]
            clear hE hR hE0 hR0
            have c2 : wr.cell? ⟨b0, 2, none⟩ = some (.int .u64 (x 2)) := hA3.cell 2
            go_wp2_with fail
            go_ret
            exact ⟨by simp, hg2.trans hgr⟩
          · have hE : E = writeE 3 := HE.out
            have hR := HN.out
            have hE0 : E = 0 := hE
            have hR0 : R 3 = bits .andNot .u64 v 3 := by rw [hR hE0]; exact (or_zero_and v 18446744073709551612).trans (and_not3 v)
            rw [hR0, hE0]
            clear hE hR hE0 hR0
            go_wp2_with fail
            go_ret
            exact ⟨by simp, hg2.trans hgr⟩
          · have hE : E = writeE 4 := HE.out
            have hR := HN.out
            have hE0 : E = 0 := hE
            have hR0 : R 4 = bits .andNot .u64 v 3 := by rw [hR hE0]; exact (or_zero_and v 18446744073709551612).trans (and_not3 v)
            rw [hR0, hE0]
            clear hE hR hE0 hR0
            go_wp2_with fail
            go_ret
            exact ⟨by simp, hg2.trans hgr⟩
          · have hE : E = writeE 5 := HE.out
            have hR := HN.out
            have hE0 : E = 0 := hE
            have hR0 : R 5 = v := by rw [hR hE0]; exact (or_zero_and v 18446744073709551615).trans (and_all v HV.out.1 HV.out.2)
            rw [hR0, hE0]
            clear hE hR hE0 hR0
            go_wp2_with fail
            go_ret
            exact ⟨by simp, hg2.trans hgr⟩
          · have hE : E = writeE 6 := HE.out
            have hR := HN.out
            have hE0 : E = 0 := hE
            have hR0 : R 6 = v := by rw [hR hE0]; exact (or_zero_and v 18446744073709551615).trans (and_all v HV.out.1 HV.out.2)
            rw [hR0, hE0]
            clear hE hR hE0 hR0
            go_wp2_with fail
            go_ret
            exact ⟨by simp, hg2.trans hgr⟩
          · have hE : E = writeE 7 := HE.out
            have hR := HN.out
            have hE0 : E = 0 := hE
            have hR0 : R 7 = v := by rw [hR hE0]; exact (or_zero_and v 18446744073709551615).trans (and_all v HV.out.1 HV.out.2)
            rw [hR0, hE0]
            clear hE hR hE0 hR0
            go_wp2_with fail
            go_ret
            exact ⟨by simp, hg2.trans hgr⟩
          · have hE : E = writeE 8 := HE.out
            have hR := HN.out
            have hE0 : E = 0 := hE
            have ht := and_top v HV.out.1 HV.out.2
            by_cases h8 : bits .and .u64 v 9223372036854775808 = 0
            · have hm : writeM 8 v = 0 := by simp [writeM, h8]
              have hR0 : R 8 = 0 := by rw [hR hE0]; unfold writeZ; rw [hm]; exact (or_zero_and v 0).trans (and_zero v)
              have hd : (v / 9223372036854775808 == 0) = true := by simp [ht.mp h8]
              rw [hR0, hE0]
              clear hE hR hE0 hR0 ht h8 hm
              go_wp2_with fail
              go_ret
              exact ⟨by simp, hg2.trans hgr⟩
            · have hm : writeM 8 v = 9223372036854841343 := by simp [writeM, h8]
              have hR0 : R 8 = bits .and .u64 v 9223372036854841343 := by rw [hR hE0]; unfold writeZ; rw [hm]; exact or_zero_and v 9223372036854841343
              have hn0 : v / 9223372036854775808 ≠ 0 := fun h => h8 (ht.mpr h)
              have hv1 : v / 9223372036854775808 = 1 := by have := HV.out; omega
              have hd0 : (v / 9223372036854775808 == 0) = false := by rw [hv1]; rfl
              have hd1 : (v / 9223372036854775808 == 1) = true := by rw [hv1]; rfl
              rw [hR0, hE0]
              clear hE hR hE0 hR0 ht h8 hm hn0 hv1
              cases hz : (bits .and .u64 v 9223372036854841343 == 0)
              all_goals
                go_wp2_with fail
                go_ret
                exact ⟨by simp, hg2.trans hgr⟩
          · have hE : E = writeE 9 := HE.out
            have hR := HN.out
            have hE0 : E = 14 := hE
            rw [hE0]
            clear hE hR hE0
            go_wp2_with fail
            go_ret
            exact ⟨by simp, hg2.trans hgr⟩
          · have hE : E = writeE 10 := HE.out
            have hR := HN.out
            have hE0 : E = 17 := hE
            rw [hE0]
            clear hE hR hE0
            go_wp2_with fail
            go_ret
            exact ⟨by simp, hg2.trans hgr⟩
          · have hE : E = writeE 11 := HE.out
            have hR := HN.out
            have hE0 : E = 14 := hE
            rw [hE0]
            clear hE hR hE0
            go_wp2_with fail
            go_ret
            exact ⟨by simp, hg2.trans hgr⟩
theorem csrMasks_walk (n : Int) (_ : (Lit.int .i64 n).wf = true) (v : Int) (wv : (Lit.int .u64 v).wf = true) (ns : List Int) (hl : ns.length = 12) (_ : ∀ x ∈ ns, (Lit.int .u64 x).wf = true) (w : World) :
    Calls Try.prog 4 #[.int .i64 n, .int .u64 v, .agg (ns.map (Value.int .u64) ++ []).toArray] w fun r w' => r = .returned (.bool true) ∧ Grows w w' := by
  have hv := bounds_u64 wv
  have e : (ns.map (Value.int .u64) ++ []).toArray = wasA (fun i => ns.getD i 0) := by
    match ns, hl with
    | [y0, y1, y2, y3, y4, y5, y6, y7, y8, y9, y10, y11], _ => rfl
  rw [e]
  exact masks_law n v (by omega) (by omega) _ w
end Go.Proofs.Ytoehigcojgeioaa
