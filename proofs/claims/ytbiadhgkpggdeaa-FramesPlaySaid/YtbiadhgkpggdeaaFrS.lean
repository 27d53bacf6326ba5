/- How often all frames are had: a sum over a map in whatever order. -/
import Derived.Test.YtbiadhgkpggdeaaFrP
import Derived.Maps.RangeWalk
namespace Go.Proofs.Ytbiadhgkpggdeaa
open Go Go.RowKit Go.Maps
set_option linter.unusedSimpArgs false
set_option linter.unusedVariables false
/-- The sum below n. -/
def sm (g : Nat → Nat) : Nat → Nat
  | 0 => 0
  | n + 1 => sm g n + g n
theorem sm_le {g : Nat → Nat} {m : Nat} : ∀ {n : Nat}, (∀ i, i < n → g i ≤ m) → sm g n ≤ n * m
  | 0, _ => by simp [sm]
  | n + 1, h => by
    have h1 := sm_le (g := g) (m := m) (n := n) fun i hi => h i (by omega)
    have h2 := h n (by omega)
    have h3 : (n + 1) * m = n * m + m := by rw [Nat.add_mul, Nat.one_mul]
    show sm g n + g n ≤ _
    omega
theorem sm_congr {f g : Nat → Nat} : ∀ {n : Nat}, (∀ i, i < n → f i = g i) → sm f n = sm g n
  | 0, _ => rfl
  | n + 1, h => by
    show sm f n + f n = sm g n + g n
    rw [sm_congr (n := n) fun i hi => h i (by omega), h n (by omega)]
theorem sm_zero {g : Nat → Nat} : ∀ {n : Nat}, (∀ i, i < n → g i = 0) → sm g n = 0
  | 0, _ => rfl
  | n + 1, h => by
    show sm g n + g n = 0
    rw [sm_zero (n := n) fun i hi => h i (by omega), h n (by omega)]
theorem sm_add {f g : Nat → Nat} {i v : Nat} : ∀ {n : Nat}, i < n → (∀ j, j < n → j ≠ i → f j = g j) → f i = 0 → g i = v → sm g n = sm f n + v
  | 0, h, _, _, _ => by omega
  | n + 1, h, hne, h0, h1 => by
    show sm g n + g n = sm f n + f n + v
    by_cases e : i = n
    · subst e
      rw [sm_congr (f := g) (g := f) (n := i) fun j hj => (hne j (by omega) (by omega)).symm, h0, h1]
      omega
    · rw [sm_add (n := n) (by omega) (fun j hj hn => hne j (by omega) hn) h0 h1, hne n (by omega) (by omega)]; omega
/-- What is summed when the keys of left are still to come. -/
def doneF (T : Nat → Nat) (left : Lit → Bool) : Nat → Nat := fun j => if left (.int .i64 (j : Nat)) then 0 else T j
set_option maxRecDepth 100000 in
set_option maxHeartbeats 2000000 in
theorem Sum_any {w : World} {p bt bw n first low : Nat} {T O : Nat → Nat} {quo : Nat → Int} (h : FrAt w p bt bw n first T O quo low) :
    Calls Try.prog 16 #[.pointer (some ⟨p, 0, none⟩)] w fun r w' => r = .returned (.int .i64 (sm T n : Nat)) ∧ Grows w w' := by
  have hno := none_ok h
  obtain ⟨c0, c1, c2, c3, c4⟩ := h.row.cells
  obtain ⟨D, hown, hsz, hD⟩ := h.tm
  have hn2 := h.n2
  have htb := h.tb
  have law : Keyed Try.prog 3 := int_keyed Try.underlying3
  clear h c0 c1 c3 c4
  go_enter Try.func16, Try.ntmps16
  go_wp2_with fail
  refine hno.mono ?_
  rintro _ _ ⟨rfl, hw⟩
  rw [hw]
  clear hw
  go_wp2_with (first
    | (at_range; refine wpList_range_own _ (by rfl) _ 38 (by rfl) 3 3 law Try.underlying38 _ bt (heldC n T) D (by rfl) hown ?_; intro w0 hrg0 hg0 hs0)
    | fail)
  try go_frame
  have hbT : Hid (∀ g : Nat → Nat, (∀ j, j < n → g j ≤ T j) → sm g n ≤ 4294967296) := Lib.hid fun g hg => by
    have h1 : sm g n ≤ n * 65536 := sm_le fun i hi => Nat.le_trans (hg i hi) (htb i hi)
    have h2 : n * 65536 ≤ 65536 * 65536 := Nat.mul_le_mul hn2 (Nat.le_refl _)
    omega
  have HD := Lib.hid hD
  clear hD hown hsz c2 hno
  go_loopw [3] (fun s wr => ∃ (left : Lit → Bool) (cnt a : Nat), wr.ranges Try.prog 3 (plainElem Try.prog 3) bt w.heap.size (heldC n T) D left cnt ∧ w.grownBy wr none ∧ s = .int .i64 a ∧ a = sm (doneF T left) n ∧ (∀ x, wf64 x → left (.int .i64 x) = true → (tmF n T x).isSome = true)) (fun _ wr => wr.rangeLeft bt w.heap.size)
  case atStart =>
    refine ⟨_, _, 0, hrg0, hg0, rfl, (sm_zero fun i hi => ?_).symm, fun x wx hx => by rw [← (HD.out x wx).2]; exact hx⟩
    unfold doneF
    by_cases hT : 0 < T i
    · have := (HD.out (i : Int) (wf_of (by omega) (by omega))).2
      rw [this, tmF_at hi, if_pos hT]; rfl
    · split <;> omega
  case round =>
    obtain ⟨left, cnt, a, hrg, hgw, rfl, ha, hleft⟩ := hrel
    have HA := Lib.hid ha
    have HLF := Lib.hid hleft
    have hab : a ≤ 4294967296 := by
      rw [ha]
      exact hbT.out _ fun j hj => by unfold doneF; split <;> omega
    clear ha hleft hrg0 hg0 hs0
    go_wp2_with (first
      | (at_next; refine wpList_next_ranges_ii _ (by rfl) _ (by rfl) 3 3 .i64 .i64 law Try.underlying3 Try.underlying3 bt w.heap.size (heldC n T) _ _ _ (by rfl) hrg ?_ ?_)
      | fail)
    · intro _ hl0
      have he : a = sm T n := by
        rw [HA.out]
        exact sm_congr fun i hi => by unfold doneF; rw [hl0]; rfl
      have HE := Lib.hid he
      have HG := Lib.hid (Chg.nil_grows (Chg.grownBy (Chg.refl [] w) hgw (fun b hb => by cases hb)))
      clear he hrg hgw
      go_wp2_with fail
      go_ret
      exact ⟨by rw [← HE.out]; rfl, HG.out⟩
    · intro x c w1 cnt1 hwx hwc hlx hat hrg1 hlt hg1 hs1 hen
      have hgw1 := hgw.andThen hg1 (fun j hj => by cases hj; exact Or.inl (Nat.le_refl _))
      obtain ⟨j, v, rfl, rfl, hj, hv, hT⟩ : ∃ j v : Nat, x = j ∧ c = v ∧ j < n ∧ T j = v ∧ 0 < v := by
        have hs := HLF.out x hwx hlx
        have hd := (HD.out x hwx).1 (.lit (.int .i64 0))
        rw [hat] at hd
        unfold tmF at hs hd
        by_cases hx : 0 ≤ x ∧ x < n ∧ 0 < T x.toNat
        · rw [if_pos hx] at hd
          simp only [DataW.lit.injEq, Lit.int.injEq, true_and] at hd
          exact ⟨x.toNat, T x.toNat, by omega, hd, by omega, rfl, hx.2.2⟩
        · rw [if_neg hx] at hs; cases hs
      have hstep : sm (doneF T (fun z => left z && !z.sameKey (.int .i64 (j : Int)))) n = a + v := by
        rw [HA.out]
        refine sm_add hj (fun i hi hne => ?_) ?_ ?_
        · have hk : (Lit.int .i64 (i : Int)).sameKey (.int .i64 (j : Int)) = false := Maps.sameKey_ne (lit_ne (by omega))
          unfold doneF
          simp [hk]
        · unfold doneF; rw [hlx]; rfl
        · have hk : (Lit.int .i64 (j : Int)).sameKey (.int .i64 (j : Int)) = true := WideAt.sameKey_self (isKey _)
          unfold doneF
          simp [hk, hv]
      have hv1 : v ≤ 65536 := by rw [← hv]; exact htb j hj
      have HST := Lib.hid hstep
      have HL1 : Hid (∀ x, wf64 x → (fun z : Lit => left z && !z.sameKey (.int .i64 (j : Int))) (.int .i64 x) = true → (tmF n T x).isSome = true) := Lib.hid fun x wx hx => HLF.out x wx (by simp at hx; exact hx.1)
      have HR1 := Lib.hid hrg1
      have HR := Lib.hid hrg
      have HGW := Lib.hid hgw1
      clear hstep hrg hrg1 hgw hgw1 hat hlx hv htb hg1
      go_wp2_with fail
      go_roundw
      case rel => exact ⟨_, cnt1, a + v, HR1.out, HGW.out, by simp, HST.out.symm, HL1.out⟩
      case measure => rw [HR1.out.left_eq, HR.out.left_eq]; exact hlt
end Go.Proofs.Ytbiadhgkpggdeaa
