/- frames: wrong, Owner, Hold. -/
import Derived.Test.YtlchlklbjocliaaDoorFrB
namespace Go.Proofs.YtlchlklbjocliaaDoor
open Go Go.RowKit
set_option linter.unusedSimpArgs false
set_option linter.unusedVariables false
set_option maxRecDepth 100000
theorem timesOf_in {n j : Nat} {T : Nat → Nat} (hj : j < n) : timesOf n T (j : Int) = T j := by unfold timesOf; rw [if_pos (by omega), Int.toNat_natCast]
theorem FrAt.look_tj {w : World} {p bt bw n first low j : Nat} {T O : Nat → Nat} {quo : Nat → Int} (h : FrAt w p bt bw n first T O quo low) (hj : j < n) :
    (Instr.lookup 29 (.map (some bt)) (.int .i64 j) false).run Tryd.prog w = .ok (.int .i64 (T j : Nat)) w := by
  have hn := h.n2
  have := h.look_t (x := (j : Int)) (wf_of (by omega) (by omega))
  rwa [timesOf_in hj] at this
/-- What is wrong with a frame, where e is what is wrong with the owners. -/
def wrE (n : Nat) (T O : Nat → Nat) (x l0 e : Int) : Int := if e ≠ 0 then e else if ¬ (0 ≤ x ∧ x < n) then 2 else if T x.toNat = 0 ∨ (O x.toNat : Int) ≠ l0 then 15 else 0
theorem wrE_zero {n : Nat} {T O : Nat → Nat} {x l0 e : Int} (h : wrE n T O x l0 e = 0) : e = 0 ∧ ∃ j : Nat, x = j ∧ j < n ∧ 0 < T j ∧ (O j : Int) = l0 := by
  unfold wrE at h
  by_cases h1 : e = 0
  · rw [if_neg (by simp [h1])] at h
    by_cases h2 : 0 ≤ x ∧ x < n
    · rw [if_neg (by simp [h2])] at h
      by_cases h3 : T x.toNat = 0 ∨ (O x.toNat : Int) ≠ l0
      · rw [if_pos h3] at h; cases h
      · exact ⟨h1, x.toNat, by omega, by omega, by omega, by omega⟩
    · rw [if_pos h2] at h; cases h
  · rw [if_pos h1] at h; exact absurd h h1
theorem wrong_gen {w : World} {p bt bw n first low b m : Nat} {T O : Nat → Nat} {quo : Nat → Int} (h : FrAt w p bt bw n first T O quo low) (x l0 e : Int) (hm : 1 ≤ m) (hm9 : m ≤ 9)
    (ho : Calls Tryd.prog 68 #[.pointer (some ⟨p, 0, none⟩), .slice (some ⟨b, 0, none⟩) m m] w fun r w' => r = .returned (.int .i64 e) ∧ w' = w) (h0 : w.cell? ⟨b, 0, none⟩ = some (.int .i64 l0)) (lb : b < w.heap.size) :
    Calls Tryd.prog 77 #[.pointer (some ⟨p, 0, none⟩), .int .i64 x, .slice (some ⟨b, 0, none⟩) m m] w fun r w' => r = .returned (.int .i64 (wrE n T O x l0 e)) ∧ Grows w w' := by
  obtain ⟨c0, c1, c2, c3, c4⟩ := h.row.cells
  have lp := h.row.lt
  have hn := h.n2
  by_cases he : e = 0
  · subst he
    by_cases hx0 : x < 0
    · have hE : wrE n T O x l0 0 = 2 := by unfold wrE; rw [if_neg (by simp), if_pos (by omega)]
      rw [hE]
      clear h hE
      go_enter Tryd.func77, Tryd.ntmps77
      go_wp2_with fail
      refine (ho).mono ?_
      rintro _ _ ⟨rfl, hw⟩
      rw [hw]
      clear hw
      go_wp2_with fail
      go_ret
      exact ⟨rfl, Grows.refl _⟩
    have d0 : decide (x < 0) = false := decide_eq_false hx0
    by_cases hxn : (n : Int) ≤ x
    · have hE : wrE n T O x l0 0 = 2 := by unfold wrE; rw [if_neg (by simp), if_pos (by omega)]
      rw [hE]
      have d1 : decide ((n : Int) ≤ x) = true := decide_eq_true hxn
      clear h hE hxn hx0
      go_enter Tryd.func77, Tryd.ntmps77
      go_wp2_with fail
      refine (ho).mono ?_
      rintro _ _ ⟨rfl, hw⟩
      rw [hw]
      clear hw
      go_wp2_with fail
      go_ret
      exact ⟨rfl, Grows.refl _⟩
    obtain ⟨j, rfl, hj⟩ : ∃ j : Nat, x = j ∧ j < n := ⟨x.toNat, by omega, by omega⟩
    have d1 : decide ((n : Int) ≤ (j : Int)) = false := decide_eq_false hxn
    have ht : ∀ g, (Instr.lookup 29 (.map (some bt)) (.int .i64 j) false).run Tryd.prog (w.grow g) = .ok (.int .i64 (T j : Nat)) (w.grow g) := fun g => (h.grows (Grows.of w g)).look_tj hj
    clear hxn hx0
    by_cases hT : T j = 0
    · have hE : wrE n T O j l0 0 = 15 := by unfold wrE; rw [if_neg (by simp), if_neg (by omega), Int.toNat_natCast, if_pos (Or.inl hT)]
      rw [hE]
      rw [hT] at ht
      clear h hE hT
      go_enter Tryd.func77, Tryd.ntmps77
      go_wp2_with fail
      refine (ho).mono ?_
      rintro _ _ ⟨rfl, hw⟩
      rw [hw]
      clear hw
      go_wp2_with fail
      refine wp_region_grow (by kernel_rfl) (by kernel_rfl) ?_
      repeat (go_big_quiet_step ((fail)))
      refine wpQuiet_nil ?_
      intro _ hw'
      obtain ⟨gg, rfl⟩ := hw'
      go_wp2_with fail
      go_ret
      exact ⟨rfl, Grows.of w gg⟩
    · have hw : ∀ g, (Instr.lookup 29 (.map (some bw)) (.int .i64 j) false).run Tryd.prog (w.grow g) = .ok (.int .i64 (O j : Nat)) (w.grow g) := fun g => (h.grows (Grows.of w g)).look_w hj (by omega)
      have hb0 : ((T j : Int) == 0) = false := by simp; omega
      by_cases hO : (O j : Int) = l0
      · have hE : wrE n T O j l0 0 = 0 := by unfold wrE; rw [if_neg (by simp), if_neg (by omega), Int.toNat_natCast, if_neg (by omega)]
        rw [hE]
        have hb1 : ((O j : Int) != l0) = false := by simp; exact hO
        generalize O j = oj at *
        generalize T j = tj at *
        clear h hE hT hO
        go_enter Tryd.func77, Tryd.ntmps77
        go_wp2_with fail
        refine (ho).mono ?_
        rintro _ _ ⟨rfl, hw⟩
        rw [hw]
        clear hw
        go_wp2_with fail
        refine wp_region_grow (by kernel_rfl) (by kernel_rfl) ?_
        repeat (go_big_quiet_step ((fail)))
        refine wpQuiet_nil ?_
        intro _ hw'
        obtain ⟨gg, rfl⟩ := hw'
        go_wp2_with fail
        go_ret
        exact ⟨rfl, Grows.of w gg⟩
      · have hE : wrE n T O j l0 0 = 15 := by unfold wrE; rw [if_neg (by simp), if_neg (by omega), Int.toNat_natCast, if_pos (Or.inr hO)]
        rw [hE]
        have hb1 : ((O j : Int) != l0) = true := by simp; exact hO
        generalize O j = oj at *
        generalize T j = tj at *
        clear h hE hT hO
        go_enter Tryd.func77, Tryd.ntmps77
        go_wp2_with fail
        refine (ho).mono ?_
        rintro _ _ ⟨rfl, hw⟩
        rw [hw]
        clear hw
        go_wp2_with fail
        refine wp_region_grow (by kernel_rfl) (by kernel_rfl) ?_
        repeat (go_big_quiet_step ((fail)))
        refine wpQuiet_nil ?_
        intro _ hw'
        obtain ⟨gg, rfl⟩ := hw'
        go_wp2_with fail
        go_ret
        exact ⟨rfl, Grows.of w gg⟩
  · have hE : wrE n T O x l0 e = e := by unfold wrE; rw [if_pos he]
    rw [hE]
    have hb : (e != 0) = true := by simp; exact he
    clear h hE he
    go_enter Tryd.func77, Tryd.ntmps77
    go_wp2_with fail
    refine (ho).mono ?_
    rintro _ _ ⟨rfl, hw⟩
    rw [hw]
    clear hw
    go_wp2_with fail
    go_ret
    exact ⟨rfl, Grows.refl _⟩
theorem Owner_some {w : World} {p bt bw n first low j : Nat} {T O : Nat → Nat} {quo : Nat → Int} (h : FrAt w p bt bw n first T O quo low) (hj : j < n) (hT : 0 < T j) :
    Calls Tryd.prog 31 #[.pointer (some ⟨p, 0, none⟩), .int .i64 j] w fun r w' => r = .returned (.tuple #[.int .i64 (O j : Nat), .int .i64 (T j : Nat), .bool true]) ∧ Grows w w' := by
  obtain ⟨c0, c1, c2, c3, c4⟩ := h.row.cells
  have lp := h.row.lt
  have hno := none_ok h
  have ht0 := h.look_tj hj
  have ht : ∀ g, (Instr.lookup 29 (.map (some bt)) (.int .i64 j) false).run Tryd.prog (w.grow g) = .ok (.int .i64 (T j : Nat)) (w.grow g) := fun g => (h.grows (Grows.of w g)).look_tj hj
  have hw : ∀ g, (Instr.lookup 29 (.map (some bw)) (.int .i64 j) false).run Tryd.prog (w.grow g) = .ok (.int .i64 (O j : Nat)) (w.grow g) := fun g => (h.grows (Grows.of w g)).look_w hj hT
  have hb0 : ((T j : Int) == 0) = false := by simp; omega
  generalize O j = oj at *
  generalize T j = tj at *
  clear h
  go_enter Tryd.func31, Tryd.ntmps31
  go_wp2_with fail
  refine (hno).mono ?_
  rintro _ _ ⟨rfl, hw⟩
  rw [hw]
  clear hw
  go_wp2_with fail
  refine wp_region_grow (by kernel_rfl) (by kernel_rfl) ?_
  repeat (go_big_quiet_step ((fail)))
  refine wpQuiet_nil ?_
  intro _ hw'
  obtain ⟨gg, rfl⟩ := hw'
  go_wp2_with fail
  go_ret3
  exact ⟨rfl, Grows.of w gg⟩
theorem Owner_none {w : World} {p bt bw n first low : Nat} {T O : Nat → Nat} {quo : Nat → Int} (h : FrAt w p bt bw n first T O quo low) {x : Int} (wx : wf64 x) (hx : timesOf n T x = 0) :
    Calls Tryd.prog 31 #[.pointer (some ⟨p, 0, none⟩), .int .i64 x] w fun r w' => r = .returned (.tuple #[.int .i64 0, .int .i64 0, .bool false]) ∧ Grows w w' := by
  obtain ⟨c0, c1, c2, c3, c4⟩ := h.row.cells
  have hno := none_ok h
  have ht0 := h.look_t wx
  rw [hx] at ht0
  clear h hx wx
  go_enter Tryd.func31, Tryd.ntmps31
  go_wp2_with fail
  refine (hno).mono ?_
  rintro _ _ ⟨rfl, hw⟩
  rw [hw]
  clear hw
  go_wp2_with fail
  go_ret3
  exact ⟨rfl, Grows.refl _⟩
end Go.Proofs.YtlchlklbjocliaaDoor
