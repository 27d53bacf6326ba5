/- The walk of WalkLies. -/
import Derived.Test.YtnkmelhggnelmaaDoorWkE
import Derived.Test.YtnkmelhggnelmaaDoorWkBoth
import Derived.Test.YtnkmelhggnelmaaDoorSlice2
namespace Go.Proofs.YtnkmelhggnelmaaDoor
open Go Go.RowKit
set_option linter.unusedSimpArgs false
set_option linter.unusedVariables false
set_option maxRecDepth 100000
instance : Inhabited SlotD := ⟨⟨0, 0, false, false, false, false, false, false, false, 0, 0⟩⟩
section
variable {H : Type} {enc : TypeId × Value → H}
abbrev slotT : List TypeId := [3, 3, 4, 4, 4, 4, 4, 4, 4, 3, 23]
theorem slots_in {W : World} {A : Option Addr} {n : Nat} {X : Nat → List Value} (hX : SliceIs2 enc Tryd.prog W slotT A n X) : ∃ D : Nat → SlotD, SlotsIn W A n D := by
  have h : ∀ i, i < n → ∃ D : SlotD, ∃ b o, A = some ⟨b, o, none⟩ ∧ b < W.heap.size ∧ D.raw < 18446744073709551616 ∧ SlotAt W b (o + i * 11) D := by
    intro i hi
    obtain ⟨b, o, hA, hb, hL, hc⟩ := hX i hi
    obtain ⟨c0, cs0, e0, l0, hL⟩ := hL.cons
    obtain ⟨c1, cs1, rfl, l1, hL⟩ := hL.cons
    obtain ⟨c2, cs2, rfl, l2, hL⟩ := hL.cons
    obtain ⟨c3, cs3, rfl, l3, hL⟩ := hL.cons
    obtain ⟨c4, cs4, rfl, l4, hL⟩ := hL.cons
    obtain ⟨c5, cs5, rfl, l5, hL⟩ := hL.cons
    obtain ⟨c6, cs6, rfl, l6, hL⟩ := hL.cons
    obtain ⟨c7, cs7, rfl, l7, hL⟩ := hL.cons
    obtain ⟨c8, cs8, rfl, l8, hL⟩ := hL.cons
    obtain ⟨c9, cs9, rfl, l9, hL⟩ := hL.cons
    obtain ⟨c10, cs10, rfl, l10, hL⟩ := hL.cons
    obtain ⟨f, rfl, _⟩ := l0.int Tryd.underlying3
    obtain ⟨p, rfl, _⟩ := l1.int Tryd.underlying3
    obtain ⟨x2, rfl⟩ := l2.bool Tryd.underlying4
    obtain ⟨x3, rfl⟩ := l3.bool Tryd.underlying4
    obtain ⟨x4, rfl⟩ := l4.bool Tryd.underlying4
    obtain ⟨x5, rfl⟩ := l5.bool Tryd.underlying4
    obtain ⟨x6, rfl⟩ := l6.bool Tryd.underlying4
    obtain ⟨x7, rfl⟩ := l7.bool Tryd.underlying4
    obtain ⟨x8, rfl⟩ := l8.bool Tryd.underlying4
    obtain ⟨m, rfl, _⟩ := l9.int Tryd.underlying3
    obtain ⟨v, rfl, hv⟩ := l10.int Tryd.underlying23
    have bv := bounds_u64 hv
    obtain ⟨v, rfl⟩ := Int.eq_ofNat_of_zero_le (show 0 ≤ v by omega)
    rw [e0] at hc
    exact ⟨⟨f, p, x2, x3, x4, x5, x6, x7, x8, m, v⟩, b, o, hA, hb, by show v < _; omega, hc 0 (by decide), by have := hc 1 (by decide); rwa [← Nat.add_assoc] at this, by have := hc 2 (by decide); rwa [← Nat.add_assoc] at this, by have := hc 3 (by decide); rwa [← Nat.add_assoc] at this, by have := hc 4 (by decide); rwa [← Nat.add_assoc] at this, by have := hc 5 (by decide); rwa [← Nat.add_assoc] at this, by have := hc 6 (by decide); rwa [← Nat.add_assoc] at this, by have := hc 7 (by decide); rwa [← Nat.add_assoc] at this, by have := hc 8 (by decide); rwa [← Nat.add_assoc] at this, by have := hc 9 (by decide); rwa [← Nat.add_assoc] at this, by have := hc 10 (by decide); rwa [← Nat.add_assoc] at this⟩
  exact Go.Deep.choose_lt h
end
/-- Two, of anything. -/
theorem two_all {w : World} {p q N : Nat} {B : Nat → Nat} (hW : Widths w) (hP : Places w) (h : Mem w p q N B) (first sec : Int) {A : Nat} (hA : A < 18446744073709551616) (k : Int) (u : Bool) :
    Calls Tryd.prog 6 #[rdr p, .int .i64 first, .int .i64 sec, .int .u64 A, .int .i64 k, .bool u] w fun r w' => (∃ v, r = .returned v ∧ TwoR N B first sec A k u v) ∧ Grows w w' := by
  by_cases h1 : A < 262144 ∧ first ≤ 1099511627776
  · by_cases h2 : first < 0
    · exact two_neg hW hP h sec h1.1 k u h2
    · obtain ⟨fi, rfl⟩ := Int.eq_ofNat_of_zero_le (show 0 ≤ first by omega)
      exact two_pos hW hP h sec h1.1 k u (by omega)
  · exact two_no first sec hA k u h1
theorem oneV_lt {N : Nat} {B : Nat → Nat} {sec : Int} {g : Nat} {k : Int} {u : Bool} {v : Nat} (h : oneV N B sec g k u = some v) : g < 262144 := by
  unfold oneV at h
  split at h
  · rename_i h1; exact h1.1
  · cases h
theorem oneV_allows {N : Nat} {B : Nat → Nat} {sec : Int} {g : Nat} {k : Int} {u : Bool} {v : Nat} (h : oneV N B sec g k u = some v) : allowsV v k u = true := by
  unfold oneV at h
  split at h
  · split at h
    · split at h
      · rename_i h3
        injection h with h
        rw [← h]; exact h3.2
      · cases h
    · cases h
  · cases h
theorem oneV_page {N : Nat} {B : Nat → Nat} {sec : Int} {g : Nat} {k : Int} {u : Bool} (hg : g < 262144) : oneV N B sec (g / 8192 * 8192 + g / 256 % 32 * 256) k u = oneV N B sec g k u := by
  unfold oneV
  rw [show (g / 8192 * 8192 + g / 256 % 32 * 256) / 8192 = g / 8192 by omega, show (g / 8192 * 8192 + g / 256 % 32 * 256) / 256 % 32 = g / 256 % 32 by omega]
  have h1 : g / 8192 * 8192 + g / 256 % 32 * 256 < 262144 := by omega
  simp only [h1, hg, true_and]
theorem allows_of {v : Nat} {k : Int} (h : allowsV v k true = true) : (k = 0 ∧ eb v 3 = true) ∨ (k = 1 ∧ eb v 1 = true) ∨ (k = 2 ∧ eb v 2 = true) := by
  unfold allowsV allowsB ok3 at h
  by_cases h0 : k = 0
  · subst h0; simp at h; exact Or.inl ⟨rfl, h.2⟩
  · by_cases h1 : k = 1
    · subst h1; simp at h; exact Or.inr (Or.inl ⟨rfl, h.2⟩)
    · by_cases h2 : k = 2
      · subst h2; simp at h; exact Or.inr (Or.inr ⟨rfl, h.2⟩)
      · simp [h0, h1, h2] at h
theorem eq_found (a a' : Int) (b b' c c' d d' e e' : Bool) (f f' : Int) (w : World) :
   (binOp .eql 34 (.agg #[.int .i64 a, .bool b, .bool c, .bool d, .bool e, .int .i64 f]) (.agg #[.int .i64 a', .bool b', .bool c', .bool d', .bool e', .int .i64 f'])).run Tryd.prog w = .ok (.bool (a == a' && (b == b' && (c == c' && (d == d' && (e == e' && f == f')))))) w := by
  simp [go_sem]
  iterate 6
    split
    rotate_left
    · simp_all
  simp_all
section
variable {H : Type} {enc : TypeId × Value → H}
def fndL (n : Int) (b1 b2 b3 b4 : Bool) (k : Int) : Array Value := #[.int .i64 n, .bool b1, .bool b2, .bool b3, .bool b4, .int .i64 k]
set_option maxRecDepth 100000 in
set_option maxHeartbeats 8000000 in
theorem walkLies_walk (W : World) (A : Option Addr) (n c : Nat) (X : Nat → List Value) (hnc : n ≤ c) (hsz : c * 40 < 140737488355328) (hX : SliceIs2 enc Tryd.prog W slotT A n X) (hA : A = none → c = 0) (first : Int) (wf0 : (Lit.int .i64 first).wf = true) (sec : Int) (wf1 : (Lit.int .i64 sec).wf = true) (at_ : Int) (wf2 : (Lit.int .u64 at_).wf = true) (k : Int) (wf3 : (Lit.int .i64 k).wf = true) (us : Bool) (hT : Widths W) (hP : Places W) :
    Calls Tryd.prog 4 #[.slice A n c, .agg #[.int .i64 first, .int .i64 sec, .int .u64 at_, .int .i64 k, .bool us]] W fun r w' => r = .returned (.bool true) ∧ Grows W w' := by
  obtain ⟨D, hD⟩ := slots_in hX
  have ba := bounds_u64 wf2
  obtain ⟨a, rfl⟩ := Int.eq_ofNat_of_zero_le (show 0 ≤ at_ by omega)
  have hn : n ≤ 9223372036854775807 := by omega
  have HBO := Lib.hid (fun w (hg : Grows W w) => both_any (hT.grows hg) A n c D hn (fun i hi => by
    obtain ⟨b, o, h1, h2, h3, s0, s1, s2, s3, s4, s5, s6, s7, s8, s9, s10⟩ := hD i hi
    exact ⟨b, o, h1, hg.lt h2, h3, (hg.cell h2).trans s0, (hg.cell h2).trans s1, (hg.cell h2).trans s2, (hg.cell h2).trans s3, (hg.cell h2).trans s4, (hg.cell h2).trans s5, (hg.cell h2).trans s6, (hg.cell h2).trans s7, (hg.cell h2).trans s8, (hg.cell h2).trans s9, (hg.cell h2).trans s10⟩))
  have HT := Lib.hid hT
  have HP := Lib.hid hP
  have HA64 := Lib.hid (show a < 18446744073709551616 by omega)
  clear hD hX hnc hsz hA wf0 wf1 wf2 wf3 ba hn hT hP
  go_enter Tryd.func4, Tryd.ntmps4
  go_wp2_with fail
  obtain ⟨b3, hb3⟩ : ∃ b, b = W.heap.size := ⟨_, rfl⟩
  obtain ⟨W1, hW1⟩ : ∃ W1, W1 = W.alloc (Obj.cells #[.int .i64 first, .int .i64 sec, .int .u64 a, .int .i64 k, .bool us] 41) := ⟨_, rfl⟩
  rw [← hW1, ← hb3]
  have hr3 : Row W1 b3 #[.int .i64 first, .int .i64 sec, .int .u64 a, .int .i64 k, .bool us] 41 := by rw [hW1]; exact Row.new_at _ _ _ hb3
  have hg1 : Grows W W1 := by rw [hW1]; exact (Grows.refl _).alloc _
  clear hW1 hb3
  refine (HBO.out W1 hg1).mono ?_
  rintro _ w2 ⟨p, q, rp, rfl, hM2, hg2⟩
  have HM2 := Lib.hid hM2
  have HR3 := Lib.hid (hr3.grows hg2)
  have HG2 := Lib.hid (hg1.trans hg2)
  clear hr3 hg1 hg2 hM2 HBO
  have l3 := HR3.out.lt
  have d0 : w2.cell? ⟨b3, 0, none⟩ = some (.int .i64 first) := HR3.out.cell 0
  have d1 : w2.cell? ⟨b3, 1, none⟩ = some (.int .i64 sec) := HR3.out.cell 1
  have d2 : w2.cell? ⟨b3, 2, none⟩ = some (.int .u64 a) := HR3.out.cell 2
  have d3 : w2.cell? ⟨b3, 3, none⟩ = some (.int .i64 k) := HR3.out.cell 3
  have d4 : w2.cell? ⟨b3, 4, none⟩ = some (.bool us) := HR3.out.cell 4
  have htw := two_all (HT.out.grows HG2.out) (HP.out.grows HG2.out) HM2.out first sec HA64.out k us
  unfold rdr at htw
  go_wp2_with fail
  refine htw.mono ?_
  clear htw d0 d1 d2 d3 d4 l3
  rintro _ w3 ⟨⟨v, rfl, hv⟩, hg3⟩
  have HM3 := Lib.hid (HM2.out.grows hg3)
  have HR33 := Lib.hid (HR3.out.grows hg3)
  have HG3 := Lib.hid (HG2.out.trans hg3)
  clear HM2 HR3 HG2 hg3
  rcases hv with ⟨cc, g, rfl, hc, _, _⟩ | ⟨v, g, r1, s1, x1, u1, lv, rfl, ho, hx, hr, hs, hu, hA, _⟩
  · have hnt := fun w => neq_trap cc a g 0 0 0 w
    have hz : (cc == 0) = false := by simp [hc]
    rw [hz] at hnt
    simp only [Bool.false_and, Bool.not_false] at hnt
    have hef := fun w => eq_found 0 0 false false false false false false false false 0 0 w
    simp only [beq_self_eq_true, Bool.and_self] at hef
    clear hc hz
    have l3 := HR33.out.lt
    have d2 : w3.cell? ⟨b3, 2, none⟩ = some (.int .u64 a) := HR33.out.cell 2
    unfold zeroF
    go_wp2_with fail
    go_ret
    exact ⟨rfl, (HG3.out.alloc _).alloc _⟩
  · have hal := allows_of (oneV_allows ho)
    have hg18 := oneV_lt ho
    obtain ⟨u0, hu0, hu32⟩ : ∃ u0, u0 = g / 8192 ∧ u0 < 32 := ⟨_, rfl, by omega⟩
    obtain ⟨l0, hl0, hl32⟩ : ∃ l0, l0 = g / 256 % 32 ∧ l0 < 32 := ⟨_, rfl, by omega⟩
    have HON := Lib.hid (show oneV 4096 (bothB D n) sec (u0 * 8192 + l0 * 256) k true = some v by rw [hu0, hl0, oneV_page hg18]; exact ho)
    have HUL := Lib.hid (show u0 < 32 ∧ l0 < 32 from ⟨hu32, hl32⟩)
    clear hu0 hl0 hu32 hl32 hg18 ho hA HA64
    subst hu
    have hnt := fun w => neq_trap 0 0 0 0 0 0 w
    simp only [beq_self_eq_true, Bool.and_self, Bool.not_true] at hnt
    have l3 := HR33.out.lt
    have d3 : w3.cell? ⟨b3, 3, none⟩ = some (.int .i64 k) := HR33.out.cell 3
    have d4 : w3.cell? ⟨b3, 4, none⟩ = some (.bool u1) := HR33.out.cell 4
    rcases hal with ⟨rfl, hb⟩ | ⟨rfl, hb⟩ | ⟨rfl, hb⟩
    · rw [hx rfl, hb]
      simp only [Bool.and_self]
      generalize (r1 && eb v 1) = f1 at *
      generalize (s1 && eb v 2) = f2 at *
      clear hx hr hs hb
      as_aux_lemma =>
        unfold zeroT
        go_wp2_with fail
        obtain ⟨b8, hb8⟩ : ∃ b, b = w3.heap.size := ⟨_, rfl⟩
        obtain ⟨W4, hW4⟩ : ∃ W4, W4 = (w3.alloc (Obj.cells #[.int .i64 (ef v), .bool f1, .bool f2, .bool true, .bool u1, .int .i64 lv] 34)).alloc (Obj.cells #[.int .i64 0, .int .u64 0, .int .u64 0] 36) := ⟨_, rfl⟩
        rw [← hW4, ← hb8]
        have hg34 : Grows w3 W4 := by rw [hW4]; exact ((Grows.refl _).alloc _).alloc _
        have HR84 := Lib.hid (show Row W4 b8 #[.int .i64 (ef v), .bool f1, .bool f2, .bool true, .bool u1, .int .i64 lv] 34 by rw [hW4, hb8]; exact (Row.new _ _ _).grows ((Grows.refl _).alloc _))
        have HM4 := Lib.hid (HM3.out.grows hg34)
        have HR34 := Lib.hid (HR33.out.grows hg34)
        have HG4 := Lib.hid (HG3.out.trans hg34)
        clear hW4 hb8 hg34 HM3 HR33 HG3 d3 d4 l3 hnt
        go_loopw [10] (fun s wr => ∃ i : Nat, i ≤ u0 ∧ s = .int .i64 i ∧ Grows W4 wr) (fun s _ => (32 - intOf s).toNat)
        case atStart => exact ⟨0, by omega, rfl, Grows.refl _⟩
        case round =>
          as_aux_lemma =>
            obtain ⟨i, hi, rfl, hgi⟩ := hrel
            have q1 : decide ((i : Int) < 32) = true := decide_eq_true (by have := HUL.out; omega)
            go_wp2_with fail
            go_loopw [11] (fun s wr' => ∃ j : Nat, j ≤ 32 ∧ (i = u0 → j ≤ l0) ∧ s = .int .i64 j ∧ Grows W4 wr') (fun s _ => (32 - intOf s).toNat)
            case atStart => exact ⟨0, by omega, by omega, rfl, hgi⟩
            case round =>
              clear hgi
              obtain ⟨j, hj, hij, rfl, hgj⟩ := hrel
              by_cases hl : j < 32
              · as_aux_lemma =>
                  have q2 : decide ((j : Int) < 32) = true := decide_eq_true (by omega)
                  have hjo := fun w => join_any (i : Int) (j : Int) 0 w
                  have hjz : joinZ (i : Int) (j : Int) 0 = ((i * 8192 + j * 256 : Nat) : Int) := by unfold joinZ; rw [if_pos (by have := HUL.out; omega)]; omega
                  have hje : joinE (i : Int) (j : Int) 0 = 0 := by unfold joinE; rw [if_pos (by have := HUL.out; omega)]
                  rw [hjz, hje] at hjo
                  have hon := fun w (hg : Grows W4 w) => one_all ((HT.out.grows HG4.out).grows hg) ((HP.out.grows HG4.out).grows hg) (HM4.out.grows hg) sec (A := i * 8192 + j * 256) (by have := HUL.out; omega) 0 true
                  obtain ⟨o, hoo⟩ : ∃ o, o = oneV 4096 (bothB D n) sec (i * 8192 + j * 256) 0 true := ⟨_, rfl⟩
                  rw [← hoo] at hon
                  have HOO := Lib.hid (show i = u0 → j = l0 → o = some v from fun h1 h2 => by rw [hoo, h1, h2]; exact HON.out)
                  obtain ⟨at1, hat1⟩ : ∃ at1 : Int, at1 = ((i * 8192 + j * 256 : Nat) : Int) := ⟨_, rfl⟩
                  rw [← hat1] at hjo
                  rw [← hat1] at hon
                  unfold rdr at hon
                  have HOV := Lib.hid hon
                  have HGJ := Lib.hid hgj
                  clear hjz hje hoo hat1 hon hgj
                  go_wp2_with fail
                  refine (hjo _).mono ?_
                  rintro _ w5 ⟨rfl, hg5⟩
                  have HG5 := Lib.hid (HGJ.out.trans hg5)
                  have l3 := (HR34.out.grows HG5.out).lt
                  have d1 : w5.cell? ⟨b3, 1, none⟩ = some (.int .i64 sec) := (HR34.out.grows HG5.out).cell 1
                  have d3 : w5.cell? ⟨b3, 3, none⟩ = some (.int .i64 0) := (HR34.out.grows HG5.out).cell 3
                  clear hjo hg5 HGJ
                  go_wp2_with fail
                  refine (HOV.out _ HG5.out).mono ?_
                  rintro _ w6 ⟨rfl, hg6⟩
                  have HG6 := Lib.hid (HG5.out.trans hg6)
                  have l8 : ∀ c t, b8 < (w6.alloc (Obj.cells c t)).heap.size := fun c t => (HR84.out.grows (HG6.out.alloc _)).lt
                  have d8 : ∀ c t, (w6.alloc (Obj.cells c t)).cell? ⟨b8, 0, none⟩ = some (.int .i64 (ef v)) := fun c t => (HR84.out.grows (HG6.out.alloc _)).cell 0
                  clear HOV hg6 d1 d3 l3
                  cases o with
                  | none =>
                    have hne : ¬ (i = u0 ∧ j = l0) := fun h => by have := HOO.out h.1 h.2; cases this
                    clear d8 l8
                    unfold fndA zeroF
                    go_wp2_with fail
                    exact ⟨⟨j + 1, by omega, by omega, by simp, HG6.out.alloc _⟩, by simp [intOf]; omega⟩
                  | some v' =>
                    unfold fndA
                    by_cases hv : ef v' = ef v
                    · have q3 : ((ef v' : Int) == (ef v : Int)) = true := by rw [hv]; simp
                      clear hv
                      go_wp2_with fail
                      go_ret
                      exact ⟨rfl, (HG4.out.trans HG6.out).alloc _⟩
                    · have q3 : ((ef v' : Int) == (ef v : Int)) = false := by simp; omega
                      have hne : ¬ (i = u0 ∧ j = l0) := fun h => by have := HOO.out h.1 h.2; injection this with this; exact hv (by rw [this])
                      clear hv
                      go_wp2_with fail
                      exact ⟨⟨j + 1, by omega, by omega, by simp, HG6.out.alloc _⟩, by simp [intOf]; omega⟩
              · have q2 : decide ((j : Int) < 32) = false := decide_eq_false (by omega)
                have hi32 : i < 32 := by have := HUL.out; omega
                have hne : i ≠ u0 := fun h => by have := hij h; have := HUL.out; omega
                have HGJ := Lib.hid hgj
                clear hgj
                go_wp2_with fail
                exact ⟨⟨i + 1, by omega, by simp, HGJ.out⟩, by simp [intOf]; omega⟩
    · rw [hr rfl, hb]
      simp only [Bool.and_self]
      generalize (x1 && eb v 3) = f3 at *
      generalize (s1 && eb v 2) = f2 at *
      clear hx hr hs hb
      as_aux_lemma =>
        unfold zeroT
        go_wp2_with fail
        obtain ⟨b8, hb8⟩ : ∃ b, b = w3.heap.size := ⟨_, rfl⟩
        obtain ⟨W4, hW4⟩ : ∃ W4, W4 = (w3.alloc (Obj.cells #[.int .i64 (ef v), .bool true, .bool f2, .bool f3, .bool u1, .int .i64 lv] 34)).alloc (Obj.cells #[.int .i64 0, .int .u64 0, .int .u64 0] 36) := ⟨_, rfl⟩
        rw [← hW4, ← hb8]
        have hg34 : Grows w3 W4 := by rw [hW4]; exact ((Grows.refl _).alloc _).alloc _
        have HR84 := Lib.hid (show Row W4 b8 #[.int .i64 (ef v), .bool true, .bool f2, .bool f3, .bool u1, .int .i64 lv] 34 by rw [hW4, hb8]; exact (Row.new _ _ _).grows ((Grows.refl _).alloc _))
        have HM4 := Lib.hid (HM3.out.grows hg34)
        have HR34 := Lib.hid (HR33.out.grows hg34)
        have HG4 := Lib.hid (HG3.out.trans hg34)
        clear hW4 hb8 hg34 HM3 HR33 HG3 d3 d4 l3 hnt
        go_loopw [10] (fun s wr => ∃ i : Nat, i ≤ u0 ∧ s = .int .i64 i ∧ Grows W4 wr) (fun s _ => (32 - intOf s).toNat)
        case atStart => exact ⟨0, by omega, rfl, Grows.refl _⟩
        case round =>
          as_aux_lemma =>
            obtain ⟨i, hi, rfl, hgi⟩ := hrel
            have q1 : decide ((i : Int) < 32) = true := decide_eq_true (by have := HUL.out; omega)
            go_wp2_with fail
            go_loopw [11] (fun s wr' => ∃ j : Nat, j ≤ 32 ∧ (i = u0 → j ≤ l0) ∧ s = .int .i64 j ∧ Grows W4 wr') (fun s _ => (32 - intOf s).toNat)
            case atStart => exact ⟨0, by omega, by omega, rfl, hgi⟩
            case round =>
              clear hgi
              obtain ⟨j, hj, hij, rfl, hgj⟩ := hrel
              by_cases hl : j < 32
              · as_aux_lemma =>
                  have q2 : decide ((j : Int) < 32) = true := decide_eq_true (by omega)
                  have hjo := fun w => join_any (i : Int) (j : Int) 0 w
                  have hjz : joinZ (i : Int) (j : Int) 0 = ((i * 8192 + j * 256 : Nat) : Int) := by unfold joinZ; rw [if_pos (by have := HUL.out; omega)]; omega
                  have hje : joinE (i : Int) (j : Int) 0 = 0 := by unfold joinE; rw [if_pos (by have := HUL.out; omega)]
                  rw [hjz, hje] at hjo
                  have hon := fun w (hg : Grows W4 w) => one_all ((HT.out.grows HG4.out).grows hg) ((HP.out.grows HG4.out).grows hg) (HM4.out.grows hg) sec (A := i * 8192 + j * 256) (by have := HUL.out; omega) 1 true
                  obtain ⟨o, hoo⟩ : ∃ o, o = oneV 4096 (bothB D n) sec (i * 8192 + j * 256) 1 true := ⟨_, rfl⟩
                  rw [← hoo] at hon
                  have HOO := Lib.hid (show i = u0 → j = l0 → o = some v from fun h1 h2 => by rw [hoo, h1, h2]; exact HON.out)
                  obtain ⟨at1, hat1⟩ : ∃ at1 : Int, at1 = ((i * 8192 + j * 256 : Nat) : Int) := ⟨_, rfl⟩
                  rw [← hat1] at hjo
                  rw [← hat1] at hon
                  unfold rdr at hon
                  have HOV := Lib.hid hon
                  have HGJ := Lib.hid hgj
                  clear hjz hje hoo hat1 hon hgj
                  go_wp2_with fail
                  refine (hjo _).mono ?_
                  rintro _ w5 ⟨rfl, hg5⟩
                  have HG5 := Lib.hid (HGJ.out.trans hg5)
                  have l3 := (HR34.out.grows HG5.out).lt
                  have d1 : w5.cell? ⟨b3, 1, none⟩ = some (.int .i64 sec) := (HR34.out.grows HG5.out).cell 1
                  have d3 : w5.cell? ⟨b3, 3, none⟩ = some (.int .i64 1) := (HR34.out.grows HG5.out).cell 3
                  clear hjo hg5 HGJ
                  go_wp2_with fail
                  refine (HOV.out _ HG5.out).mono ?_
                  rintro _ w6 ⟨rfl, hg6⟩
                  have HG6 := Lib.hid (HG5.out.trans hg6)
                  have l8 : ∀ c t, b8 < (w6.alloc (Obj.cells c t)).heap.size := fun c t => (HR84.out.grows (HG6.out.alloc _)).lt
                  have d8 : ∀ c t, (w6.alloc (Obj.cells c t)).cell? ⟨b8, 0, none⟩ = some (.int .i64 (ef v)) := fun c t => (HR84.out.grows (HG6.out.alloc _)).cell 0
                  clear HOV hg6 d1 d3 l3
                  cases o with
                  | none =>
                    have hne : ¬ (i = u0 ∧ j = l0) := fun h => by have := HOO.out h.1 h.2; cases this
                    clear d8 l8
                    unfold fndA zeroF
                    go_wp2_with fail
                    exact ⟨⟨j + 1, by omega, by omega, by simp, HG6.out.alloc _⟩, by simp [intOf]; omega⟩
                  | some v' =>
                    unfold fndA
                    by_cases hv : ef v' = ef v
                    · have q3 : ((ef v' : Int) == (ef v : Int)) = true := by rw [hv]; simp
                      clear hv
                      go_wp2_with fail
                      go_ret
                      exact ⟨rfl, (HG4.out.trans HG6.out).alloc _⟩
                    · have q3 : ((ef v' : Int) == (ef v : Int)) = false := by simp; omega
                      have hne : ¬ (i = u0 ∧ j = l0) := fun h => by have := HOO.out h.1 h.2; injection this with this; exact hv (by rw [this])
                      clear hv
                      go_wp2_with fail
                      exact ⟨⟨j + 1, by omega, by omega, by simp, HG6.out.alloc _⟩, by simp [intOf]; omega⟩
              · have q2 : decide ((j : Int) < 32) = false := decide_eq_false (by omega)
                have hi32 : i < 32 := by have := HUL.out; omega
                have hne : i ≠ u0 := fun h => by have := hij h; have := HUL.out; omega
                have HGJ := Lib.hid hgj
                clear hgj
                go_wp2_with fail
                exact ⟨⟨i + 1, by omega, by simp, HGJ.out⟩, by simp [intOf]; omega⟩
    · rw [hs rfl, hb]
      simp only [Bool.and_self]
      generalize (x1 && eb v 3) = f3 at *
      generalize (r1 && eb v 1) = f1 at *
      clear hx hr hs hb
      as_aux_lemma =>
        unfold zeroT
        go_wp2_with fail
        obtain ⟨b8, hb8⟩ : ∃ b, b = w3.heap.size := ⟨_, rfl⟩
        obtain ⟨W4, hW4⟩ : ∃ W4, W4 = (w3.alloc (Obj.cells #[.int .i64 (ef v), .bool f1, .bool true, .bool f3, .bool u1, .int .i64 lv] 34)).alloc (Obj.cells #[.int .i64 0, .int .u64 0, .int .u64 0] 36) := ⟨_, rfl⟩
        rw [← hW4, ← hb8]
        have hg34 : Grows w3 W4 := by rw [hW4]; exact ((Grows.refl _).alloc _).alloc _
        have HR84 := Lib.hid (show Row W4 b8 #[.int .i64 (ef v), .bool f1, .bool true, .bool f3, .bool u1, .int .i64 lv] 34 by rw [hW4, hb8]; exact (Row.new _ _ _).grows ((Grows.refl _).alloc _))
        have HM4 := Lib.hid (HM3.out.grows hg34)
        have HR34 := Lib.hid (HR33.out.grows hg34)
        have HG4 := Lib.hid (HG3.out.trans hg34)
        clear hW4 hb8 hg34 HM3 HR33 HG3 d3 d4 l3 hnt
        go_loopw [10] (fun s wr => ∃ i : Nat, i ≤ u0 ∧ s = .int .i64 i ∧ Grows W4 wr) (fun s _ => (32 - intOf s).toNat)
        case atStart => exact ⟨0, by omega, rfl, Grows.refl _⟩
        case round =>
          as_aux_lemma =>
            obtain ⟨i, hi, rfl, hgi⟩ := hrel
            have q1 : decide ((i : Int) < 32) = true := decide_eq_true (by have := HUL.out; omega)
            go_wp2_with fail
            go_loopw [11] (fun s wr' => ∃ j : Nat, j ≤ 32 ∧ (i = u0 → j ≤ l0) ∧ s = .int .i64 j ∧ Grows W4 wr') (fun s _ => (32 - intOf s).toNat)
            case atStart => exact ⟨0, by omega, by omega, rfl, hgi⟩
            case round =>
              clear hgi
              obtain ⟨j, hj, hij, rfl, hgj⟩ := hrel
              by_cases hl : j < 32
              · as_aux_lemma =>
                  have q2 : decide ((j : Int) < 32) = true := decide_eq_true (by omega)
                  have hjo := fun w => join_any (i : Int) (j : Int) 0 w
                  have hjz : joinZ (i : Int) (j : Int) 0 = ((i * 8192 + j * 256 : Nat) : Int) := by unfold joinZ; rw [if_pos (by have := HUL.out; omega)]; omega
                  have hje : joinE (i : Int) (j : Int) 0 = 0 := by unfold joinE; rw [if_pos (by have := HUL.out; omega)]
                  rw [hjz, hje] at hjo
                  have hon := fun w (hg : Grows W4 w) => one_all ((HT.out.grows HG4.out).grows hg) ((HP.out.grows HG4.out).grows hg) (HM4.out.grows hg) sec (A := i * 8192 + j * 256) (by have := HUL.out; omega) 2 true
                  obtain ⟨o, hoo⟩ : ∃ o, o = oneV 4096 (bothB D n) sec (i * 8192 + j * 256) 2 true := ⟨_, rfl⟩
                  rw [← hoo] at hon
                  have HOO := Lib.hid (show i = u0 → j = l0 → o = some v from fun h1 h2 => by rw [hoo, h1, h2]; exact HON.out)
                  obtain ⟨at1, hat1⟩ : ∃ at1 : Int, at1 = ((i * 8192 + j * 256 : Nat) : Int) := ⟨_, rfl⟩
                  rw [← hat1] at hjo
                  rw [← hat1] at hon
                  unfold rdr at hon
                  have HOV := Lib.hid hon
                  have HGJ := Lib.hid hgj
                  clear hjz hje hoo hat1 hon hgj
                  go_wp2_with fail
                  refine (hjo _).mono ?_
                  rintro _ w5 ⟨rfl, hg5⟩
                  have HG5 := Lib.hid (HGJ.out.trans hg5)
                  have l3 := (HR34.out.grows HG5.out).lt
                  have d1 : w5.cell? ⟨b3, 1, none⟩ = some (.int .i64 sec) := (HR34.out.grows HG5.out).cell 1
                  have d3 : w5.cell? ⟨b3, 3, none⟩ = some (.int .i64 2) := (HR34.out.grows HG5.out).cell 3
                  clear hjo hg5 HGJ
                  go_wp2_with fail
                  refine (HOV.out _ HG5.out).mono ?_
                  rintro _ w6 ⟨rfl, hg6⟩
                  have HG6 := Lib.hid (HG5.out.trans hg6)
                  have l8 : ∀ c t, b8 < (w6.alloc (Obj.cells c t)).heap.size := fun c t => (HR84.out.grows (HG6.out.alloc _)).lt
                  have d8 : ∀ c t, (w6.alloc (Obj.cells c t)).cell? ⟨b8, 0, none⟩ = some (.int .i64 (ef v)) := fun c t => (HR84.out.grows (HG6.out.alloc _)).cell 0
                  clear HOV hg6 d1 d3 l3
                  cases o with
                  | none =>
                    have hne : ¬ (i = u0 ∧ j = l0) := fun h => by have := HOO.out h.1 h.2; cases this
                    clear d8 l8
                    unfold fndA zeroF
                    go_wp2_with fail
                    exact ⟨⟨j + 1, by omega, by omega, by simp, HG6.out.alloc _⟩, by simp [intOf]; omega⟩
                  | some v' =>
                    unfold fndA
                    by_cases hv : ef v' = ef v
                    · have q3 : ((ef v' : Int) == (ef v : Int)) = true := by rw [hv]; simp
                      clear hv
                      go_wp2_with fail
                      go_ret
                      exact ⟨rfl, (HG4.out.trans HG6.out).alloc _⟩
                    · have q3 : ((ef v' : Int) == (ef v : Int)) = false := by simp; omega
                      have hne : ¬ (i = u0 ∧ j = l0) := fun h => by have := HOO.out h.1 h.2; injection this with this; exact hv (by rw [this])
                      clear hv
                      go_wp2_with fail
                      exact ⟨⟨j + 1, by omega, by omega, by simp, HG6.out.alloc _⟩, by simp [intOf]; omega⟩
              · have q2 : decide ((j : Int) < 32) = false := decide_eq_false (by omega)
                have hi32 : i < 32 := by have := HUL.out; omega
                have hne : i ≠ u0 := fun h => by have := hij h; have := HUL.out; omega
                have HGJ := Lib.hid hgj
                clear hgj
                go_wp2_with fail
                exact ⟨⟨i + 1, by omega, by simp, HGJ.out⟩, by simp [intOf]; omega⟩
end
end Go.Proofs.YtnkmelhggnelmaaDoor
