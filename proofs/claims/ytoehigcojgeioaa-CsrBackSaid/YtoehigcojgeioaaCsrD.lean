/- What Due and Wakes of the package csr compute. -/
import Derived.Test.YtoehigcojgeioaaCsr
namespace Go.Proofs.Ytoehigcojgeioaa
open Go Go.RowKit
set_option linter.unusedSimpArgs false
set_option linter.unusedVariables false
def dueB (q p m : Int) : Bool := bits .and .u64 (bits .and .u64 q p / m) 1 == 1
theorem dueset_any {b p : Nat} {r : Nat → Int} {W : World} (h : File W b r) (hp : W.cell? ⟨p, 0, none⟩ = some (.pointer (some ⟨b, 0, none⟩))) (lp : p < W.heap.size) (l m : Int) (hl : (l = 9 ∧ m = 512) ∨ (l = 1 ∧ m = 2) ∨ (l = 5 ∧ m = 32)) :
    Calls Try.prog 21 #[.int .i64 l, .pointer (some ⟨p, 0, none⟩)] W fun e w' => e = .returned (.bool (dueB (r 1) (r 2) m)) ∧ Grows W w' := by
  have c1 : W.cell? ⟨b, 2, none⟩ = some (.int .u64 (r 1)) := h.cell 2
  have c2 : W.cell? ⟨b, 3, none⟩ = some (.int .u64 (r 2)) := h.cell 3
  have lb := h.lt
  rcases hl with ⟨rfl, rfl⟩ | ⟨rfl, rfl⟩ | ⟨rfl, rfl⟩
  all_goals
    go_enter Try.func21, Try.ntmps21
    go_wp2_with fail
    refine wp_region_grow (by kernel_rfl) (by kernel_rfl) ?_
    repeat (go_big_quiet_step (fail))
    refine wpQuiet_nil ?_
    intro _ hw'
    obtain ⟨g, rfl⟩ := hw'
    go_wp2_with fail
    go_ret
    exact ⟨rfl, Grows.of _ _⟩
def dueZ (q p : Int) : Int := if dueB q p 512 then 4611686018427387913 else if dueB q p 2 then 4611686018427387905 else if dueB q p 32 then 4611686018427387909 else 0
def dueT (q p : Int) : Bool := dueB q p 512 || dueB q p 2 || dueB q p 32
set_option maxHeartbeats 2000000 in
theorem due_user {b : Nat} {r : Nat → Int} {W : World} (h : File W b r) :
    Calls Try.prog 11 #[.pointer (some ⟨b, 0, none⟩), .int .i64 0] W fun e w' => e = .returned (.tuple #[.int .i64 (dueZ (r 1) (r 2)), .bool (dueT (r 1) (r 2))]) ∧ Grows W w' := by
  have i0 : ∀ w', (Instr.index 56 (.agg #[.int .i64 9, .int .i64 1, .int .i64 5]) (.int .i64 0)).run Try.prog w' = .ok (.int .i64 9) w' := fun _ => by kernel_rfl
  have i1 : ∀ w', (Instr.index 56 (.agg #[.int .i64 9, .int .i64 1, .int .i64 5]) (.int .i64 1)).run Try.prog w' = .ok (.int .i64 1) w' := fun _ => by kernel_rfl
  have i2 : ∀ w', (Instr.index 56 (.agg #[.int .i64 9, .int .i64 1, .int .i64 5]) (.int .i64 2)).run Try.prog w' = .ok (.int .i64 5) w' := fun _ => by kernel_rfl
  go_enter Try.func11, Try.ntmps11
  go_wp2_with fail
  obtain ⟨W1, hW1⟩ : ∃ W1, W1 = W.alloc (Obj.cells #[.pointer (some ⟨b, 0, none⟩)] 22) := ⟨_, rfl⟩
  rw [← hW1]
  have hg : Grows W W1 := by rw [hW1]; exact (Grows.refl _).alloc _
  obtain ⟨p, hp⟩ : ∃ p, p = W.heap.size := ⟨_, rfl⟩
  rw [← hp]
  have hF : File W1 b r := h.grows hg
  have hP : Row W1 p #[.pointer (some ⟨b, 0, none⟩)] 22 := by rw [hW1]; exact Row.new_at _ _ _ hp
  clear hW1 hp
  have cP := hP.cell
  have lP := hP.lt
  refine (none_any hF).mono ?_
  rintro _ W2 ⟨rfl, hw⟩
  rw [hw]
  clear hw W2
  go_wp2_with fail
  have hP0 : W1.cell? ⟨p, 0, none⟩ = some (.pointer (some ⟨b, 0, none⟩)) := cP 0
  clear cP
  go_loopw [26] (fun i wr => (∃ (k : Nat) (I : Int), k ≤ 3 ∧ I = k ∧ i = .int .i64 I ∧ (1 ≤ k → dueB (r 1) (r 2) 512 = false) ∧ (2 ≤ k → dueB (r 1) (r 2) 2 = false) ∧ (3 ≤ k → dueB (r 1) (r 2) 32 = false)) ∧ Grows W1 wr) (fun i _ => (3 - intOf i).toNat)
  case atStart => exact ⟨⟨0, 0, by omega, rfl, rfl, fun h => absurd h (by omega), fun h => absurd h (by omega), fun h => absurd h (by omega)⟩, Grows.refl _⟩
  case round =>
    obtain ⟨⟨k, I, hk, hI, rfl, hd0, hd1, hd2⟩, hgr⟩ := hrel
    have hF' := hF.grows hgr
    have hP' := (hgr.cell lP).trans hP0
    have lP' := hgr.lt lP
    clear hP hP0 lP hF
    by_cases hlt : k < 3
    · have : k = 0 ∨ k = 1 ∨ k = 2 := by omega
      rcases this with rfl | rfl | rfl
      · simp at hI
        subst hI
        clear hd0 hd1 hd2
        go_wp2_with fail
        refine (dueset_any hF' hP' lP' 9 512 (by simp)).mono ?_
        rintro _ w2 ⟨rfl, g2, rfl⟩
        cases hb : dueB (r 1) (r 2) 512
        · go_wp2_with fail
          exact ⟨⟨⟨1, 1, by omega, rfl, rfl, fun _ => hb, fun h => absurd h (by omega), fun h => absurd h (by omega)⟩, hgr.grow _⟩, by decide⟩
        · go_wp2_with fail
          go_ret2
          exact ⟨by simp [dueZ, dueT, hb], (hg.trans hgr).grow _⟩
      · simp at hI
        subst hI
        have d0 := hd0 (by omega)
        clear hd0 hd1 hd2
        go_wp2_with fail
        refine (dueset_any hF' hP' lP' 1 2 (by simp)).mono ?_
        rintro _ w2 ⟨rfl, g2, rfl⟩
        cases hb : dueB (r 1) (r 2) 2
        · go_wp2_with fail
          exact ⟨⟨⟨2, 2, by omega, rfl, rfl, fun _ => d0, fun _ => hb, fun h => absurd h (by omega)⟩, hgr.grow _⟩, by decide⟩
        · go_wp2_with fail
          go_ret2
          exact ⟨by simp [dueZ, dueT, hb, d0], (hg.trans hgr).grow _⟩
      · simp at hI
        subst hI
        have d0 := hd0 (by omega)
        have d1 := hd1 (by omega)
        clear hd0 hd1 hd2
        go_wp2_with fail
        refine (dueset_any hF' hP' lP' 5 32 (by simp)).mono ?_
        rintro _ w2 ⟨rfl, g2, rfl⟩
        cases hb : dueB (r 1) (r 2) 32
        · go_wp2_with fail
          exact ⟨⟨⟨3, 3, by omega, rfl, rfl, fun _ => d0, fun _ => d1, fun _ => hb⟩, hgr.grow _⟩, by decide⟩
        · go_wp2_with fail
          go_ret2
          exact ⟨by simp [dueZ, dueT, hb, d0, d1], (hg.trans hgr).grow _⟩
    · have : k = 3 := by omega
      subst this
      simp at hI
      subst hI
      have d0 := hd0 (by omega)
      have d1 := hd1 (by omega)
      have d2 := hd2 (by omega)
      clear hd0 hd1 hd2
      go_wp2_with fail
      go_ret2
      exact ⟨by simp [dueZ, dueT, d0, d1, d2], hg.trans hgr⟩
set_option maxHeartbeats 2000000 in
theorem due_kern {b : Nat} {r : Nat → Int} {W : World} (h : File W b r) :
    Calls Try.prog 11 #[.pointer (some ⟨b, 0, none⟩), .int .i64 1] W fun e w' => e = .returned (if bits .and .u64 (r 0) 2 = 0 then .tuple #[.int .i64 0, .bool false] else .tuple #[.int .i64 (dueZ (r 1) (r 2)), .bool (dueT (r 1) (r 2))]) ∧ Grows W w' := by
  have i0 : ∀ w', (Instr.index 56 (.agg #[.int .i64 9, .int .i64 1, .int .i64 5]) (.int .i64 0)).run Try.prog w' = .ok (.int .i64 9) w' := fun _ => by kernel_rfl
  have i1 : ∀ w', (Instr.index 56 (.agg #[.int .i64 9, .int .i64 1, .int .i64 5]) (.int .i64 1)).run Try.prog w' = .ok (.int .i64 1) w' := fun _ => by kernel_rfl
  have i2 : ∀ w', (Instr.index 56 (.agg #[.int .i64 9, .int .i64 1, .int .i64 5]) (.int .i64 2)).run Try.prog w' = .ok (.int .i64 5) w' := fun _ => by kernel_rfl
  by_cases ho : bits .and .u64 (r 0) 2 = 0
  · rw [if_pos ho]
    go_enter Try.func11, Try.ntmps11
    go_wp2_with fail
    obtain ⟨W1, hW1⟩ : ∃ W1, W1 = W.alloc (Obj.cells #[.pointer (some ⟨b, 0, none⟩)] 22) := ⟨_, rfl⟩
    rw [← hW1]
    have hg : Grows W W1 := by rw [hW1]; exact (Grows.refl _).alloc _
    obtain ⟨p, hp⟩ : ∃ p, p = W.heap.size := ⟨_, rfl⟩
    rw [← hp]
    have hF : File W1 b r := h.grows hg
    have hP : Row W1 p #[.pointer (some ⟨b, 0, none⟩)] 22 := by rw [hW1]; exact Row.new_at _ _ _ hp
    clear hW1 hp
    have cP := hP.cell
    have lP := hP.lt
    refine (none_any hF).mono ?_
    rintro _ W2 ⟨rfl, hw⟩
    rw [hw]
    clear hw W2
    have c0 : W1.cell? ⟨b, 1, none⟩ = some (.int .u64 (r 0)) := hF.cell 1
    go_wp2_with fail
    go_ret2
    exact ⟨rfl, hg⟩
  · rw [if_neg ho]
    have ho' : (bits .and .u64 (r 0) 2 == 0) = false := by simp [ho]
    go_enter Try.func11, Try.ntmps11
    go_wp2_with fail
    obtain ⟨W1, hW1⟩ : ∃ W1, W1 = W.alloc (Obj.cells #[.pointer (some ⟨b, 0, none⟩)] 22) := ⟨_, rfl⟩
    rw [← hW1]
    have hg : Grows W W1 := by rw [hW1]; exact (Grows.refl _).alloc _
    obtain ⟨p, hp⟩ : ∃ p, p = W.heap.size := ⟨_, rfl⟩
    rw [← hp]
    have hF : File W1 b r := h.grows hg
    have hP : Row W1 p #[.pointer (some ⟨b, 0, none⟩)] 22 := by rw [hW1]; exact Row.new_at _ _ _ hp
    clear hW1 hp
    have cP := hP.cell
    have lP := hP.lt
    refine (none_any hF).mono ?_
    rintro _ W2 ⟨rfl, hw⟩
    rw [hw]
    clear hw W2
    have c0 : W1.cell? ⟨b, 1, none⟩ = some (.int .u64 (r 0)) := hF.cell 1
    go_wp2_with fail
    clear c0
    have hP0 : W1.cell? ⟨p, 0, none⟩ = some (.pointer (some ⟨b, 0, none⟩)) := cP 0
    clear cP
    go_loopw [26] (fun i wr => (∃ (k : Nat) (I : Int), k ≤ 3 ∧ I = k ∧ i = .int .i64 I ∧ (1 ≤ k → dueB (r 1) (r 2) 512 = false) ∧ (2 ≤ k → dueB (r 1) (r 2) 2 = false) ∧ (3 ≤ k → dueB (r 1) (r 2) 32 = false)) ∧ Grows W1 wr) (fun i _ => (3 - intOf i).toNat)
    case atStart => exact ⟨⟨0, 0, by omega, rfl, rfl, fun h => absurd h (by omega), fun h => absurd h (by omega), fun h => absurd h (by omega)⟩, Grows.refl _⟩
    case round =>
      obtain ⟨⟨k, I, hk, hI, rfl, hd0, hd1, hd2⟩, hgr⟩ := hrel
      have hF' := hF.grows hgr
      have hP' := (hgr.cell lP).trans hP0
      have lP' := hgr.lt lP
      clear hP hP0 lP hF
      by_cases hlt : k < 3
      · have : k = 0 ∨ k = 1 ∨ k = 2 := by omega
        rcases this with rfl | rfl | rfl
        · simp at hI
          subst hI
          clear hd0 hd1 hd2
          go_wp2_with fail
          refine (dueset_any hF' hP' lP' 9 512 (by simp)).mono ?_
          rintro _ w2 ⟨rfl, g2, rfl⟩
          cases hb : dueB (r 1) (r 2) 512
          · go_wp2_with fail
            exact ⟨⟨⟨1, 1, by omega, rfl, rfl, fun _ => hb, fun h => absurd h (by omega), fun h => absurd h (by omega)⟩, hgr.grow _⟩, by decide⟩
          · go_wp2_with fail
            go_ret2
            exact ⟨by simp [dueZ, dueT, hb], (hg.trans hgr).grow _⟩
        · simp at hI
          subst hI
          have d0 := hd0 (by omega)
          clear hd0 hd1 hd2
          go_wp2_with fail
          refine (dueset_any hF' hP' lP' 1 2 (by simp)).mono ?_
          rintro _ w2 ⟨rfl, g2, rfl⟩
          cases hb : dueB (r 1) (r 2) 2
          · go_wp2_with fail
            exact ⟨⟨⟨2, 2, by omega, rfl, rfl, fun _ => d0, fun _ => hb, fun h => absurd h (by omega)⟩, hgr.grow _⟩, by decide⟩
          · go_wp2_with fail
            go_ret2
            exact ⟨by simp [dueZ, dueT, hb, d0], (hg.trans hgr).grow _⟩
        · simp at hI
          subst hI
          have d0 := hd0 (by omega)
          have d1 := hd1 (by omega)
          clear hd0 hd1 hd2
          go_wp2_with fail
          refine (dueset_any hF' hP' lP' 5 32 (by simp)).mono ?_
          rintro _ w2 ⟨rfl, g2, rfl⟩
          cases hb : dueB (r 1) (r 2) 32
          · go_wp2_with fail
            exact ⟨⟨⟨3, 3, by omega, rfl, rfl, fun _ => d0, fun _ => d1, fun _ => hb⟩, hgr.grow _⟩, by decide⟩
          · go_wp2_with fail
            go_ret2
            exact ⟨by simp [dueZ, dueT, hb, d0, d1], (hg.trans hgr).grow _⟩
      · have : k = 3 := by omega
        subst this
        simp at hI
        subst hI
        have d0 := hd0 (by omega)
        have d1 := hd1 (by omega)
        have d2 := hd2 (by omega)
        clear hd0 hd1 hd2
        go_wp2_with fail
        go_ret2
        exact ⟨by simp [dueZ, dueT, d0, d1, d2], hg.trans hgr⟩
theorem wakes_any {b : Nat} {r : Nat → Int} {W : World} (h : File W b r) :
    Calls Try.prog 12 #[.pointer (some ⟨b, 0, none⟩)] W fun e w' => e = .returned (.bool (bits .and .u64 (bits .and .u64 (r 1) (r 2)) 546 != 0)) ∧ Grows W w' := by
  have c1 : W.cell? ⟨b, 2, none⟩ = some (.int .u64 (r 1)) := h.cell 2
  have c2 : W.cell? ⟨b, 3, none⟩ = some (.int .u64 (r 2)) := h.cell 3
  have lb := h.lt
  go_enter Try.func12, Try.ntmps12
  go_wp2_with fail
  refine wp_region_grow (by kernel_rfl) (by kernel_rfl) ?_
  repeat (go_big_quiet_step ((go_at_call 19; first | exact (none_any (h.grows (Grows.of _ _))).mono (fun _ _ ⟨he, hw⟩ => ⟨he, _, hw⟩))))
  refine wpQuiet_nil ?_
  intro _ hw'
  obtain ⟨g, rfl⟩ := hw'
  go_wp2_with fail
  go_ret
  exact ⟨rfl, Grows.of _ _⟩
end Go.Proofs.Ytoehigcojgeioaa
