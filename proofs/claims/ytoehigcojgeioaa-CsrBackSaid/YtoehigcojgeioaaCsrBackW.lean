/- The walk of CsrBack. -/
import Derived.Test.YtoehigcojgeioaaCsrBits
import Derived.Test.YtoehigcojgeioaaCsrW
import Derived.Test.YtoehigcojgeioaaSlice
namespace Go.Proofs.Ytoehigcojgeioaa
open Go Go.RowKit
set_option linter.unusedSimpArgs false
set_option linter.unusedVariables false
def Wrote (b : Nat) (e : Ending) (w' : World) : Prop := ∃ E r', e = .returned (.int .i64 E) ∧ File w' b r'
set_option maxHeartbeats 2000000 in
theorem write_all {b : Nat} {r : Nat → Int} {W : World} (h : File W b r) (n v : Int) :
    Calls Try.prog 13 #[.pointer (some ⟨b, 0, none⟩), .int .i64 n, .int .i64 1, .int .u64 v] W fun e w' => Wrote b e w' ∧ Turns b W w' := by
  by_cases hn : 0 ≤ n ∧ n < 12
  · obtain ⟨N, rfl⟩ := Int.eq_ofNat_of_zero_le hn.1
    exact (write_kern h (n := N) (by omega) v).mono fun e w' ⟨he, hf, ht⟩ => ⟨⟨_, _, he, hf⟩, ht⟩
  · have hw : Calls Try.prog 22 #[.pointer (some ⟨b, 0, none⟩), .int .i64 n, .int .i64 1] W fun e w' => e = .returned (.int .i64 14) ∧ w' = W := by
      have hk : (decide (0 ≤ n) && decide (n < 12)) = false := by
        rw [Bool.and_eq_false_iff, decide_eq_false_iff_not, decide_eq_false_iff_not]; omega
      have hk' : Calls Try.prog 20 #[.int .i64 n] W fun e w' => e = .returned (.bool false) ∧ w' = W := (known_any n W).mono fun e w' ⟨he, hw⟩ => ⟨by rw [he, hk], hw⟩
      clear hk hn
      go_enter Try.func22, Try.ntmps22
      go_wp2_with fail
      refine (none_any h).mono ?_
      rintro _ W1 ⟨rfl, hw⟩
      rw [hw]
      clear hw W1
      go_wp2_with fail
      refine hk'.mono ?_
      rintro _ W1 ⟨rfl, hw⟩
      rw [hw]
      clear hw W1
      go_wp2_with fail
      go_ret
      exact ⟨rfl, rfl⟩
    clear hn
    go_enter Try.func13, Try.ntmps13
    go_wp2_with fail
    refine hw.mono ?_
    rintro _ W1 ⟨rfl, hw1⟩
    rw [hw1]
    clear hw1 W1 hw
    go_wp2_with fail
    go_ret
    exact ⟨⟨_, _, rfl, h⟩, Turns_refl _ _⟩
theorem turns_cell {b k o : Nat} {x y : World} (h : Turns b x y) (hk : k < x.heap.size) (hn : k ≠ b) : y.cell? ⟨k, o, none⟩ = x.cell? ⟨k, o, none⟩ := World.cell?_of_block (h.2.2.2.2 k hk hn)
section
variable {H : Type} {enc : TypeId × Value → H}
abbrev actT : List TypeId := [3, 3, 3, 29, 3, 29, 29, 4]
theorem act_at {W : World} {A : Option Addr} {n : Nat} {X : Nat → List Value} (hX : SliceIs enc Try.prog W actT A n X) {i : Nat} (hi : i < n) :
    ∃ b o, A = some ⟨b, o, none⟩ ∧ b < W.heap.size ∧ ∃ K N V : Int, W.cell? ⟨b, o + i * 8, none⟩ = some (.int .i64 K) ∧ W.cell? ⟨b, o + i * 8 + 1, none⟩ = some (.int .i64 N) ∧ W.cell? ⟨b, o + i * 8 + 3, none⟩ = some (.int .u64 V) := by
  obtain ⟨b, o, hA, hb, hL, hc⟩ := hX i hi
  obtain ⟨c0, cs0, e0, l0, hL⟩ := hL.cons
  obtain ⟨c1, cs1, rfl, l1, hL⟩ := hL.cons
  obtain ⟨c2, cs2, rfl, l2, hL⟩ := hL.cons
  obtain ⟨c3, cs3, rfl, l3, hL⟩ := hL.cons
  obtain ⟨K, rfl, _⟩ := l0.int Try.underlying3
  obtain ⟨N, rfl, _⟩ := l1.int Try.underlying3
  obtain ⟨V, rfl, _⟩ := l3.int Try.underlying29
  rw [e0] at hc
  exact ⟨b, o, hA, hb, K, N, V, hc 0 (by decide), by have := hc 1 (by decide); rwa [← Nat.add_assoc] at this, by have := hc 3 (by decide); rwa [← Nat.add_assoc] at this⟩
set_option maxRecDepth 100000 in
set_option maxHeartbeats 4000000 in
theorem csrBack_walk (W : World) (A : Option Addr) (n c : Nat) (X : Nat → List Value) (hnc : n ≤ c) (hsz : c * 64 < 140737488355328) (hX : SliceIs enc Try.prog W actT A n X) (t : Int) (ht : (Lit.int .i64 t).wf = true) (v : Int) (_ : (Lit.int .u64 v).wf = true) (g : Int) (_ : (Lit.int .u64 g).wf = true) (pc : Int) (_ : (Lit.int .u64 pc).wf = true) :
    Calls Try.prog 5 #[.slice A n c, .agg #[.int .i64 t, .int .u64 v, .int .u64 g], .int .u64 pc] W fun r w' => r = .returned (.bool true) ∧ Grows W w' := by
  have HT : Hid (t < 9223372036854775808) := Lib.hid (by have := bounds_i64 ht; omega)
  have hn : n ≤ 9223372036854775807 := by omega
  go_enter Try.func5, Try.ntmps5
  go_wp2_with fail
  refine (new_any (by decide) _).mono ?_
  rintro _ w1 ⟨rfl, hF1, hg1⟩
  obtain ⟨p, hp⟩ : ∃ p, p = W.heap.size := ⟨_, rfl⟩
  rw [← hp]
  have hP : Row w1 p #[.int .i64 t, .int .u64 v, .int .u64 g] 40 := (Row.new_at W _ _ hp).grows hg1
  have hg : Grows W w1 := ((Grows.refl W).alloc _).trans hg1
  obtain ⟨b, hb⟩ : ∃ b, b = (W.alloc (Obj.cells #[.int .i64 t, .int .u64 v, .int .u64 g] 40)).heap.size := ⟨_, rfl⟩
  rw [← hb] at hF1
  rw [← hb]
  have hbp : b ≠ p := by rw [hb, hp]; simp
  have HB : Hid (W.heap.size ≤ b) := Lib.hid (by rw [hb]; simp)
  obtain ⟨r1, hr1⟩ : ∃ r1, r1 = updR (fun _ => 0) 11 0 := ⟨_, rfl⟩
  rw [← hr1] at hF1
  clear hp hb hg1 hr1
  go_wp2_with fail
  go_loopw [8] (fun i wr => (∃ (k : Nat) (r : Nat → Int), k ≤ n ∧ i = .int .i64 k ∧ File wr b r) ∧ Row wr p #[.int .i64 t, .int .u64 v, .int .u64 g] 40 ∧ Turns b w1 wr) (fun i _ => (n - intOf i).toNat)
  case atStart => exact ⟨⟨0, r1, by omega, rfl, hF1⟩, hP, Turns_refl _ _⟩
  case round =>
    obtain ⟨⟨k, r, hk, rfl, hF⟩, hP', hT⟩ := hrel
    clear hF1 hP
    by_cases hlt : k < n
    · obtain ⟨a, o, rfl, ha, K, N, V, cK, cN, cV⟩ := act_at hX hlt
      have hab : a ≠ b := by have := HB.out; omega
      have ha1 : a < w1.heap.size := hg.lt ha
      have ha2 : a < wr.heap.size := Nat.lt_of_lt_of_le ha1 hT.1
      have cK' : wr.cell? ⟨a, o + k * 8, none⟩ = some (.int .i64 K) := by rw [turns_cell hT ha1 hab, hg.cell ha]; exact cK
      have cN' : wr.cell? ⟨a, o + k * 8 + 1, none⟩ = some (.int .i64 N) := by rw [turns_cell hT ha1 hab, hg.cell ha]; exact cN
      have cV' : wr.cell? ⟨a, o + k * 8 + 3, none⟩ = some (.int .u64 V) := by rw [turns_cell hT ha1 hab, hg.cell ha]; exact cV
      clear cK cN cV hX
      have HG := Lib.hid hg
      have HT' := Lib.hid hT
      have HF := Lib.hid hF
      have HP := Lib.hid hP'
      clear hg hT hF hP'
      by_cases hK : K = 0
      · subst hK
        go_wp2_with fail
        obtain ⟨V1, hV⟩ : ∃ V1, V1 = wr.drew := ⟨_, rfl⟩
        have hFV : File V1 b r := by rw [hV]; exact HF.out
        have hTV : Turns b w1 V1 := by rw [hV]; exact HT'.out
        have hPV : Row V1 p #[.int .i64 t, .int .u64 v, .int .u64 g] 40 := by rw [hV]; exact HP.out
        have cN2 : V1.cell? ⟨a, o + k * 8 + 1, none⟩ = some (.int .i64 N) := by rw [hV]; exact cN'
        have cV2 : V1.cell? ⟨a, o + k * 8 + 3, none⟩ = some (.int .u64 V) := by rw [hV]; exact cV'
        have lV2 : a < V1.heap.size := by rw [hV]; exact ha2
        refine wp_region_still_tail 11 (by kernel_rfl) (by kernel_rfl) ?_
        simp only [List.take_succ_cons, List.take_zero, List.drop_succ_cons, List.drop_zero]
        change wpStill _ _ (World.drew wr) _ _ _
        rw [← hV]
        have HV := Lib.hid hV
        have HTV := Lib.hid hTV
        have HPV := Lib.hid hPV
        clear hV cK' cN' cV' ha1 ha2 HT' HF HP hTV hPV
        repeat still_step
        refine wpStill_nil ?_
        change wpList _ _ _ _ _ (World.drew wr)
        rw [← HV.out]
        go_wp2_with fail
        refine (write_all hFV _ _).mono ?_
        rintro _ w3 ⟨⟨E, r', rfl, hF3⟩, hT3⟩
        have hT4 := Turns_trans HTV.out hT3
        have hP4 := Row_turns HPV.out (Ne.symm hbp) hT3
        go_wp2_with fail
        exact ⟨⟨⟨k + 1, r', by omega, by simp, hF3⟩, hP4, hT4⟩, by simp [intOf]; omega⟩
      · have hK' : (K == 0) = false := by simp [hK]
        clear hK
        go_wp2_with fail
        exact ⟨⟨⟨k + 1, r, by omega, by simp, HF.out⟩, HP.out, HT'.out⟩, by simp [intOf]; omega⟩
    · have : k = n := by omega
      subst this
      have HG := Lib.hid hg
      clear hg
      go_wp2_with fail
      go_loopw [9] (fun i wr => (∃ (k : Nat) (r : Nat → Int), k ≤ 2 ∧ i = .int .i64 k ∧ File wr b r) ∧ Row wr p #[.int .i64 t, .int .u64 v, .int .u64 g] 40 ∧ Turns b w1 wr) (fun i _ => (2 - intOf i).toNat)
      case atStart => exact ⟨⟨0, r, by omega, rfl, hF⟩, hP', hT⟩
      case round =>
        obtain ⟨⟨q, r, hq, rfl, hF⟩, hP', hT⟩ := hrel
        by_cases hlt : q < 2
        · have HP := Lib.hid hP'
          have HT2 := Lib.hid hT
          have hq2 : (q : Int) = 0 ∨ (q : Int) = 1 := by omega
          clear hP' hT
          go_wp2_with fail
          refine (get_any hF (n := 0) (by omega)).mono ?_
          rintro _ w2 ⟨rfl, hw⟩
          rw [hw]
          clear hw w2
          go_wp2_with fail
          refine (get_any hF (n := 3) (by omega)).mono ?_
          rintro _ w2 ⟨rfl, hw⟩
          rw [hw]
          clear hw w2
          have p0 : wr.cell? ⟨p, 0, none⟩ = some (.int .i64 t) := HP.out.cell 0
          have p1 : wr.cell? ⟨p, 1, none⟩ = some (.int .u64 v) := HP.out.cell 1
          have p2 : wr.cell? ⟨p, 2, none⟩ = some (.int .u64 g) := HP.out.cell 2
          go_wp2_with fail
          refine (enter_any hF t v g pc q HT.out hq2).mono ?_
          rintro _ w3 ⟨rfl, ⟨r', hF3, e0, e4, e6⟩, hT3⟩
          obtain ⟨s1, s2, s3⟩ := back_status (r 0) q hq2
          rw [← e0] at s1 s2 s3
          have HP3 := Lib.hid (Row_turns HP.out (Ne.symm hbp) hT3)
          have HT3 := Lib.hid (Turns_trans HT2.out hT3)
          obtain ⟨z, hz⟩ : ∃ z, z = bits .and .u64 (r 0) 2 := ⟨_, rfl⟩
          obtain ⟨pz, hpz⟩ : ∃ pz, pz = bits .andNot .u64 pc 3 := ⟨_, rfl⟩
          rw [← hz] at s1
          rw [← hz]
          rw [← hpz] at e4
          have S1 := Lib.hid s1
          have S2 := Lib.hid s2
          have E4 := Lib.hid e4
          have E6 := Lib.hid e6
          have S3 := Lib.hid s3
          have HPZ := Lib.hid hpz
          clear hT3 HT2 HP p0 p1 p2 hF e0 s1 s2 s3 e4 e6 hz hpz hq2
          go_wp2_with fail
          refine (due_kern hF3).mono ?_
          rintro _ w4 ⟨he, g4, rfl⟩
          rw [if_pos S3.out] at he
          subst he
          have hF4 := hF3.grows (Grows.of w3 g4)
          have HP4 := Lib.hid (HP3.out.grows (Grows.of w3 g4))
          have HT4 := Lib.hid (Turns_trans HT3.out (Turns_grows (b := b) (Grows.of w3 g4)))
          clear hF3 HP3 HT3
          go_wp2_with fail
          refine (leave_any hF4).mono ?_
          rintro _ w5 ⟨rfl, hF5, hT5⟩
          rw [S2.out, E4.out]
          have HP5 := Lib.hid (Row_turns HP4.out (Ne.symm hbp) hT5)
          have HT5 := Lib.hid (Turns_trans HT4.out hT5)
          have hG0 : updR r' 0 (leaveS (r' 0)) 0 = leaveS (r' 0) := by simp [updR]
          have hG6 : updR r' 0 (leaveS (r' 0)) 6 = v := by rw [← E6.out]; simp [updR]
          have hget0 : ∀ g, Calls Try.prog 10 #[.pointer (some ⟨b, 0, none⟩), .int .i64 0] (w5.grow g) fun e w' => e = .returned (.int .u64 (leaveS (r' 0))) ∧ ∃ h, w' = w5.grow h := fun g => (get_any (hF5.grows (Grows.of _ g)) (n := 0) (by omega)).mono (fun _ _ ⟨he, hw⟩ => ⟨by rw [he, hG0], _, hw⟩)
          have hget6 : ∀ g, Calls Try.prog 10 #[.pointer (some ⟨b, 0, none⟩), .int .i64 6] (w5.grow g) fun e w' => e = .returned (.int .u64 v) ∧ ∃ h, w' = w5.grow h := fun g => (get_any (hF5.grows (Grows.of _ g)) (n := 6) (by omega)).mono (fun _ _ ⟨he, hw⟩ => ⟨by rw [he, hG6], _, hw⟩)
          obtain ⟨L, hL⟩ : ∃ L, L = leaveS (r' 0) := ⟨_, rfl⟩
          have s1 := S1.out
          rw [← hL] at hget0 s1
          have p1 : w5.cell? ⟨p, 1, none⟩ = some (.int .u64 v) := HP5.out.cell 1
          have lp := HP5.out.lt
          have hpz := HPZ.out.symm
          have HF5 := Lib.hid hF5
          clear hT5 HT4 HP4 hF4 hG0 hG6 hL hF5
          go_wp2_with fail
          refine wp_region_grow (by kernel_rfl) (by kernel_rfl) ?_
          repeat (go_big_quiet_step ((go_at_call 10; first | with_reducible exact hget0 _ | with_reducible exact hget6 _)))
          refine wpQuiet_nil ?_
          intro _ hw'
          obtain ⟨g5, rfl⟩ := hw'
          go_wp2_with fail
          exact ⟨⟨⟨q + 1, _, by omega, by simp, HF5.out.grows (Grows.of w5 g5)⟩, HP5.out.grows (Grows.of w5 g5), Turns_trans HT5.out (Turns_grows (Grows.of w5 g5))⟩, by simp [intOf]; omega⟩
        · have : q = 2 := by omega
          subst this
          go_wp2_with fail
          go_ret
          exact ⟨rfl, Grows_turns HG.out HB.out hT⟩
end
end Go.Proofs.Ytoehigcojgeioaa
