/- What the functions of the package vcpu compute: State, Name, File, still, turn, Block, Wake, Stop; Enter and Leave out of turn. -/
import Derived.Test.YtilefidnjjbboaaVcpuC
namespace Go.Proofs.Ytilefidnjjbboaa
open Go Go.RowKit
set_option linter.unusedSimpArgs false
set_option linter.unusedVariables false
theorem VcAt.ix {w : World} {vb fb : Nat} {g ix st co : Int} {R : List Value} {r : Nat → Int} (h : VcAt w vb fb g ix st co R r) : w.cell? ⟨vb, 1, none⟩ = some (.int .i64 ix) := by
  rw [h.row.cell]; exact (vcL_at h.reg).2.1
theorem VcAt.set2 {w : World} {vb fb : Nat} {g ix s co : Int} {R : List Value} {r : Nat → Int} (hv : VcAt w vb fb g ix s co R r) (s' : Int) : VcAt (w.setCell ⟨vb, 2, none⟩ (.int .i64 s')) vb fb g ix s' co R r := by
  have h1 := hv.row.put 2 (.int .i64 s')
  have e : (vcL g ix s co R fb).toArray.setIfInBounds 2 (.int .i64 s') = (vcL g ix s' co R fb).toArray := by
    obtain ⟨x0, x1, x2, x3, x4, x5, x6, x7, x8, x9, x10, x11, x12, x13, x14, x15, pc, m, rfl⟩ := hv.reg; rfl
  rw [e] at h1
  have hne := vf_ne hv
  exact ⟨h1, Row.chg (S := [vb]) hv.file ((Chg.refl _ _).setCell (Or.inl (by simp)) _ _) (by simp; exact fun e => hne e.symm), hv.reg⟩
theorem state_ok {w : World} {vb fb : Nat} {g ix s co : Int} {R : List Value} {r : Nat → Int} (h : VcAt w vb fb g ix s co R r) :
    Calls Try.prog 20 #[.pointer (some ⟨vb, 0, none⟩)] w fun e w' => e = .returned (.tuple #[.int .i64 s, .int .i64 co]) ∧ Grows w w' := by
  have hno := vnone_ok h
  obtain ⟨c0, c2, c3, c22⟩ := h.cells
  have lv := h.row.lt
  clear h
  go_enter Try.func20, Try.ntmps20
  go_wp2_with fail
  refine (hno).mono ?_
  rintro _ _ ⟨rfl, hw⟩
  rw [hw]
  clear hw
  go_wp2_with fail
  refine wp_region_grow (by kernel_rfl) (by kernel_rfl) ?_
  repeat (go_big_quiet_step (fail))
  refine wpQuiet_nil ?_
  intro _ hw'
  obtain ⟨gg, rfl⟩ := hw'
  go_wp2_with fail
  go_ret2
  exact ⟨rfl, Grows.of _ _⟩
theorem name_ok {w : World} {vb fb : Nat} {g ix s co : Int} {R : List Value} {r : Nat → Int} (h : VcAt w vb fb g ix s co R r) :
    Calls Try.prog 21 #[.pointer (some ⟨vb, 0, none⟩)] w fun e w' => e = .returned (.tuple #[.int .i64 g, .int .i64 ix]) ∧ Grows w w' := by
  have hno := vnone_ok h
  obtain ⟨c0, c2, c3, c22⟩ := h.cells
  have c1 := h.ix
  have lv := h.row.lt
  clear h
  go_enter Try.func21, Try.ntmps21
  go_wp2_with fail
  refine (hno).mono ?_
  rintro _ _ ⟨rfl, hw⟩
  rw [hw]
  clear hw
  go_wp2_with fail
  refine wp_region_grow (by kernel_rfl) (by kernel_rfl) ?_
  repeat (go_big_quiet_step (fail))
  refine wpQuiet_nil ?_
  intro _ hw'
  obtain ⟨gg, rfl⟩ := hw'
  go_wp2_with fail
  go_ret2
  exact ⟨rfl, Grows.of _ _⟩
theorem file_ok {w : World} {vb fb : Nat} {g ix s co : Int} {R : List Value} {r : Nat → Int} (h : VcAt w vb fb g ix s co R r) :
    Calls Try.prog 26 #[.pointer (some ⟨vb, 0, none⟩)] w fun e w' => e = .returned (.pointer (some ⟨fb, 0, none⟩)) ∧ w' = w := by
  have hno := vnone_ok h
  obtain ⟨c0, c2, c3, c22⟩ := h.cells
  clear h
  go_enter Try.func26, Try.ntmps26
  go_wp2_with fail
  refine (hno).mono ?_
  rintro _ _ ⟨rfl, hw⟩
  rw [hw]
  clear hw
  go_wp2_with fail
  go_ret
  exact ⟨rfl, rfl⟩
theorem still_ok {w : World} {vb fb : Nat} {g ix s co : Int} {R : List Value} {r : Nat → Int} (h : VcAt w vb fb g ix s co R r) :
    Calls Try.prog 36 #[.pointer (some ⟨vb, 0, none⟩)] w fun e w' => e = .returned (.int .i64 (if s = 2 then 21 else 0)) ∧ w' = w := by
  have hno := vnone_ok h
  obtain ⟨c0, c2, c3, c22⟩ := h.cells
  clear h
  by_cases hs : s = 2
  · subst hs
    go_enter Try.func36, Try.ntmps36
    go_wp2_with fail
    refine (hno).mono ?_
    rintro _ _ ⟨rfl, hw⟩
    rw [hw]
    clear hw
    go_wp2_with fail
    go_ret
    exact ⟨rfl, rfl⟩
  · rw [if_neg hs]
    have hd : (s == 2) = false := by simp [hs]
    go_enter Try.func36, Try.ntmps36
    go_wp2_with fail
    refine (hno).mono ?_
    rintro _ _ ⟨rfl, hw⟩
    rw [hw]
    clear hw
    go_wp2_with fail
    go_ret
    exact ⟨rfl, rfl⟩
theorem turn_any {w : World} {vb fb b n : Nat} {g ix s co z : Int} {R : List Value} {r : Nat → Int} (h : VcAt w vb fb g ix s co R r) (f : Nat → Int) (hn : n ≤ 9) (hf : ∀ i, i < n → w.cell? ⟨b, i, none⟩ = some (.int .i64 (f i))) :
    Calls Try.prog 35 #[.pointer (some ⟨vb, 0, none⟩), .int .i64 z, .slice (some ⟨b, 0, none⟩) n n] w fun e w' => ((∃ i, i < n ∧ f i = s) ∧ e = .returned (.int .i64 0) ∧ w' = w.setCell ⟨vb, 2, none⟩ (.int .i64 z)) ∨ ((∀ i, i < n → f i ≠ s) ∧ e = .returned (.int .i64 21) ∧ w' = w) := by
  have hno := vnone_ok h
  obtain ⟨c0, c2, c3, c22⟩ := h.cells
  have f2 := h.row.frozen 2
  clear h
  go_enter Try.func35, Try.ntmps35
  go_wp2_with fail
  refine (hno).mono ?_
  rintro _ _ ⟨rfl, hw⟩
  rw [hw]
  clear hw
  clear hno
  go_wp2_with fail
  go_loopw [13] (fun i wr => ∃ k : Nat, k ≤ n ∧ i = .int .i64 k ∧ (∀ j, j < k → f j ≠ s) ∧ wr = w) (fun i _ => (n - intOf i).toNat)
  case atStart => exact ⟨0, by omega, rfl, fun j hj => absurd hj (by omega), rfl⟩
  case round =>
    obtain ⟨k, hk, rfl, hall, rfl⟩ := hrel
    by_cases hlt : k < n
    · have c0 := hf k hlt
      by_cases ho : f k = s
      · have hd : (s == f k) = true := by simp [ho]
        have HA : Hid (∃ i, i < n ∧ f i = s) := Lib.hid ⟨k, hlt, ho⟩
        clear hf hall ho
        generalize f k = x at *
        go_wp2_with fail
        go_ret
        exact Or.inl ⟨HA.out, rfl, rfl⟩
      · have hd : (s == f k) = false := by simp; exact fun e => ho e.symm
        have HA : Hid (∀ j, j < k + 1 → f j ≠ s) := Lib.hid fun j hj => by
          by_cases e : j = k
          · rw [e]; exact ho
          · exact hall j (by omega)
        clear hf hall ho
        generalize f k = x at *
        go_wp2_with fail
        exact ⟨⟨k + 1, by omega, by simp, HA.out, by trivial⟩, by simp [intOf]; omega⟩
    · have : k = n := by omega
      subst this
      have HA := Lib.hid hall
      clear hf hall
      go_wp2_with fail
      go_ret
      exact Or.inr ⟨HA.out, rfl, rfl⟩
/-- A turn of the state, or none. -/
def Turned (w w' : World) (vb fb : Nat) (g ix s co z : Int) (R : List Value) (r : Nat → Int) (hit : Prop) [Decidable hit] (e : Ending) : Prop :=
  e = .returned (.int .i64 (if hit then 0 else 21)) ∧ VcAt w' vb fb g ix (if hit then z else s) co R r ∧ Chg [vb] w w' ∧ (¬ hit → Grows w w')
theorem turned_of {w W w' : World} {vb fb n : Nat} {g ix s co z : Int} {R : List Value} {r : Nat → Int} {hit : Prop} [Decidable hit] {e : Ending} {f : Nat → Int} (h : VcAt W vb fb g ix s co R r) (hg : Grows w W) (hh : hit ↔ ∃ i, i < n ∧ f i = s)
    (hp : ((∃ i, i < n ∧ f i = s) ∧ e = .returned (.int .i64 0) ∧ w' = W.setCell ⟨vb, 2, none⟩ (.int .i64 z)) ∨ ((∀ i, i < n → f i ≠ s) ∧ e = .returned (.int .i64 21) ∧ w' = W)) : Turned w w' vb fb g ix s co z R r hit e := by
  rcases hp with ⟨h1, rfl, rfl⟩ | ⟨h1, rfl, rfl⟩
  · have := hh.2 h1
    refine ⟨by rw [if_pos this], by rw [if_pos this]; exact h.set2 z, (Chg.of_grows hg).setCell (Or.inl (by simp)) _ _, fun hn => absurd this hn⟩
  · have : ¬ hit := fun hq => by obtain ⟨i, hi, e⟩ := hh.1 hq; exact h1 i hi e
    exact ⟨by rw [if_neg this], by rw [if_neg this]; exact h, Chg.of_grows hg, fun _ => hg⟩
theorem block_any {w : World} {vb fb : Nat} {g ix s co : Int} {R : List Value} {r : Nat → Int} (h : VcAt w vb fb g ix s co R r) :
    Calls Try.prog 14 #[.pointer (some ⟨vb, 0, none⟩)] w fun e w' => Turned w w' vb fb g ix s co 3 R r (s = 1) e := by
  go_enter Try.func14, Try.ntmps14
  go_wp2_with fail
  have hg : Grows w (w.alloc (Obj.cells #[.int .i64 1] 3)) := (Grows.refl _).alloc _
  have h2 := h.grows hg
  refine (turn_any (b := w.heap.size) (n := 1) h2 (fun _ => 1) (by omega) (fun i hi => by
    obtain rfl : i = 0 := by omega
    exact (Row.new w #[.int .i64 1] 3).cell 0)).mono ?_
  intro e w3 hp
  have ht := turned_of h2 hg (hit := s = 1) ⟨fun e => ⟨0, by omega, e.symm⟩, fun ⟨i, _, e⟩ => e.symm⟩ hp
  obtain ⟨he, ht⟩ := ht
  obtain ⟨E, hE⟩ : ∃ E : Int, E = (if s = 1 then 0 else 21) := ⟨_, rfl⟩
  rw [he, ← hE]
  have HE := Lib.hid hE
  have HT := Lib.hid ht
  clear hp ht he h h2 hg hE
  go_wp2_with fail
  go_ret
  exact ⟨by rw [← HE.out]; rfl, HT.out⟩
theorem wake_any {w : World} {vb fb : Nat} {g ix s co : Int} {R : List Value} {r : Nat → Int} (h : VcAt w vb fb g ix s co R r) :
    Calls Try.prog 16 #[.pointer (some ⟨vb, 0, none⟩)] w fun e w' => Turned w w' vb fb g ix s co 1 R r (s = 3) e := by
  go_enter Try.func16, Try.ntmps16
  go_wp2_with fail
  have hg : Grows w (w.alloc (Obj.cells #[.int .i64 3] 3)) := (Grows.refl _).alloc _
  have h2 := h.grows hg
  refine (turn_any (b := w.heap.size) (n := 1) h2 (fun _ => 3) (by omega) (fun i hi => by
    obtain rfl : i = 0 := by omega
    exact (Row.new w #[.int .i64 3] 3).cell 0)).mono ?_
  intro e w3 hp
  have ht := turned_of h2 hg (hit := s = 3) ⟨fun e => ⟨0, by omega, e.symm⟩, fun ⟨i, _, e⟩ => e.symm⟩ hp
  obtain ⟨he, ht⟩ := ht
  obtain ⟨E, hE⟩ : ∃ E : Int, E = (if s = 3 then 0 else 21) := ⟨_, rfl⟩
  rw [he, ← hE]
  have HE := Lib.hid hE
  have HT := Lib.hid ht
  clear hp ht he h h2 hg hE
  go_wp2_with fail
  go_ret
  exact ⟨by rw [← HE.out]; rfl, HT.out⟩
theorem stop_any {w : World} {vb fb : Nat} {g ix s co : Int} {R : List Value} {r : Nat → Int} (h : VcAt w vb fb g ix s co R r) :
    Calls Try.prog 17 #[.pointer (some ⟨vb, 0, none⟩)] w fun e w' => Turned w w' vb fb g ix s co 4 R r (s = 1 ∨ s = 3) e := by
  go_enter Try.func17, Try.ntmps17
  go_wp2_with fail
  have hg : Grows w (w.alloc (Obj.cells #[.int .i64 1, .int .i64 3] 3)) := (Grows.refl _).alloc _
  have h2 := h.grows hg
  refine (turn_any (b := w.heap.size) (n := 2) h2 (fun i => if i = 0 then 1 else 3) (by omega) (fun i hi => by
    have hr := Row.new w #[.int .i64 1, .int .i64 3] 3
    rcases (show i = 0 ∨ i = 1 by omega) with rfl | rfl
    · exact hr.cell 0
    · exact hr.cell 1)).mono ?_
  intro e w3 hp
  have ht := turned_of h2 hg (hit := s = 1 ∨ s = 3) ⟨fun e => by
    rcases e with e | e
    · exact ⟨0, by omega, by rw [e]; rfl⟩
    · exact ⟨1, by omega, by rw [e]; rfl⟩, fun ⟨i, hi, e⟩ => by
    rcases (show i = 0 ∨ i = 1 by omega) with rfl | rfl
    · exact Or.inl e.symm
    · exact Or.inr e.symm⟩ hp
  obtain ⟨he, ht⟩ := ht
  obtain ⟨E, hE⟩ : ∃ E : Int, E = (if s = 1 ∨ s = 3 then 0 else 21) := ⟨_, rfl⟩
  rw [he, ← hE]
  have HE := Lib.hid hE
  have HT := Lib.hid ht
  clear hp ht he h h2 hg hE
  go_wp2_with fail
  go_ret
  exact ⟨by rw [← HE.out]; rfl, HT.out⟩
theorem enter_state {w : World} {pm me N F vb fb : Nat} {cb : Nat → Nat} {st : Nat → Option (List Value)} {g ix s co : Int} (c rt : Int) {R : List Value} {r : Nat → Int} (h : MachAt w pm me N F cb st) (hN1 : 1 ≤ N) (hN : N ≤ 8) (hv : VcAt w vb fb g ix s co R r) (hs : s ≠ 1) :
    Calls Try.prog 10 #[.pointer (some ⟨vb, 0, none⟩), .pointer (some ⟨pm, 0, none⟩), .int .i64 c, .int .i64 rt] w fun e w' => e = .returned (.int .i64 21) ∧ w' = w := by
  have hno := vnone_ok hv
  have hcs := cores_ok h
  obtain ⟨c0, c2, c3, c22⟩ := hv.cells
  have hn0 : ((N : Int) == 0) = false := by simp; omega
  have hd : (s != 1) = true := by simp [hs]
  clear h hv hs
  go_enter Try.func10, Try.ntmps10
  go_wp2_with fail
  refine (hno).mono ?_
  rintro _ _ ⟨rfl, hw⟩
  rw [hw]
  clear hw
  go_wp2_with fail
  refine (hcs).mono ?_
  rintro _ _ ⟨rfl, hw⟩
  rw [hw]
  clear hw
  go_wp2_with fail
  go_ret
  exact ⟨rfl, rfl⟩
theorem leave_state {w : World} {pm me N F vb fb : Nat} {cb : Nat → Nat} {st : Nat → Option (List Value)} {g ix s co : Int} {R : List Value} {r : Nat → Int} (h : MachAt w pm me N F cb st) (hN1 : 1 ≤ N) (hN : N ≤ 8) (hv : VcAt w vb fb g ix s co R r) (hs : s ≠ 2) :
    Calls Try.prog 11 #[.pointer (some ⟨vb, 0, none⟩), .pointer (some ⟨pm, 0, none⟩)] w fun e w' => e = .returned (.int .i64 21) ∧ w' = w := by
  have hno := vnone_ok hv
  have hcs := cores_ok h
  obtain ⟨c0, c2, c3, c22⟩ := hv.cells
  have hn0 : ((N : Int) == 0) = false := by simp; omega
  have hd : (s != 2) = true := by simp [hs]
  clear h hv hs
  go_enter Try.func11, Try.ntmps11
  go_wp2_with fail
  refine (hno).mono ?_
  rintro _ _ ⟨rfl, hw⟩
  rw [hw]
  clear hw
  go_wp2_with fail
  refine (hcs).mono ?_
  rintro _ _ ⟨rfl, hw⟩
  rw [hw]
  clear hw
  go_wp2_with fail
  go_ret
  exact ⟨rfl, rfl⟩
end Go.Proofs.Ytilefidnjjbboaa
