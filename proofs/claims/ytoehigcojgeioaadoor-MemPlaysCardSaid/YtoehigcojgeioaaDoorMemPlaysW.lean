/- The walk of MemPlays. -/
import Derived.Test.YtoehigcojgeioaaDoorMemDoes
namespace Go.Proofs.YtoehigcojgeioaaDoor
open Go Go.RowKit
set_option linter.unusedSimpArgs false
set_option linter.unusedVariables false
theorem wpAnyH_mono {P : Program} {md : Region.Mode} {ops : Array Oper} {Q : Exit → Act → World → Prop} {S T : World → Prop} (h : ∀ w, T w → S w) :
    ∀ (fuel : Nat) (listed : Array Bool) (a : Act) (w : World), wpAnyH P md ops Q T fuel listed a w → wpAnyH P md ops Q S fuel listed a w
  | 0, _, _, _, g => g
  | fuel + 1, _, _, _, g => ⟨g.1, fun i hi => wpOp_mono (fun a' w' h' => ⟨h _ h'.1, wpAnyH_mono h fuel _ a' w' h'.2⟩) (g.2 i hi)⟩
theorem names_any (w : World) : Calls Tryd.prog 18 #[] w fun r w' => r = .returned (.bool true) ∧ w' = w := by
  go_enter Tryd.func18, Tryd.ntmps18
  go_wp2_with fail
  go_ret
  exact ⟨rfl, rfl⟩
theorem run_make_u8' (N : Nat) (hN : N ≤ 16777216) (w : World) : (Instr.makeSlice 23 (.int .i64 N) (.int .i64 N)).run Tryd.prog w =
    .ok (.slice (some ⟨w.heap.size, 0, none⟩) N N) (w.alloc (.cells (madeCells #[.int .u8 0] N) 5)) := by
  obtain ⟨i0, hi, hz0, hz1, hz2⟩ := info_parts info_u8
  have h := run_make (P := Tryd.prog) w 23 5 i0 (.int .u8 0) Tryd.underlying23 hi hz0 .i64 .i64 (N : Int) (N : Int) (by omega) (by omega) (by rw [hz2]; omega) (by omega)
  rw [h, hz1]
  simp
  rfl
section
variable {H : Type} {enc : TypeId × Value → H}
abbrev actT : List TypeId := [3, 22, 3, 22, 23]
/-- An act's bytes. -/
structure BytesArg (W : World) (a : Option Addr) (m c : Nat) (ds : List Nat) : Prop where
  src : Src W a ds
  len : ds.length = m
  cap : m ≤ c
  small : c < 140737488355328
  nil : a = none → c = 0
theorem act_at {W : World} {A : Option Addr} {n : Nat} {X : Nat → List Value} (hX : SliceIs2 enc Tryd.prog W actT A n X) {i : Nat} (hi : i < n) :
    ∃ b o, A = some ⟨b, o, none⟩ ∧ b < W.heap.size ∧ ∃ (K N : Int) (T V : Nat) (a : Option Addr) (m c : Nat) (ds : List Nat), BytesArg W a m c ds ∧ T < 18446744073709551616 ∧ N ≤ 9223372036854775807 ∧
      W.cell? ⟨b, o + i * 5, none⟩ = some (.int .i64 K) ∧ W.cell? ⟨b, o + i * 5 + 1, none⟩ = some (.int .u64 T) ∧ W.cell? ⟨b, o + i * 5 + 2, none⟩ = some (.int .i64 N) ∧ W.cell? ⟨b, o + i * 5 + 3, none⟩ = some (.int .u64 V) ∧ W.cell? ⟨b, o + i * 5 + 4, none⟩ = some (.slice a m c) := by
  obtain ⟨b, o, hA, hb, hL, hc⟩ := hX i hi
  obtain ⟨c0, cs0, e0, l0, hL⟩ := hL.cons
  obtain ⟨c1, cs1, rfl, l1, hL⟩ := hL.cons
  obtain ⟨c2, cs2, rfl, l2, hL⟩ := hL.cons
  obtain ⟨c3, cs3, rfl, l3, hL⟩ := hL.cons
  obtain ⟨c4, cs4, rfl, l4, hL⟩ := hL.cons
  obtain ⟨K, rfl, _⟩ := l0.int Tryd.underlying3
  obtain ⟨T, rfl, hT⟩ := l1.int Tryd.underlying22
  obtain ⟨N, rfl, hN⟩ := l2.int Tryd.underlying3
  obtain ⟨V, rfl, hV⟩ := l3.int Tryd.underlying22
  obtain ⟨a, m, c, X', rfl, h1, h2, h3, h4, h5⟩ := l4.slice (ts := [5]) 8 Tryd.underlying23 (by kernel_rfl) (by kernel_rfl) (by decide)
  rw [show Tryd.prog.bytesOf 5 = 1 by kernel_rfl] at h3
  obtain ⟨ds, hs, hl⟩ := src_of_slice h1 h5 h4
  have bT := bounds_u64 hT
  have bN := bounds_i64 hN
  have bV := bounds_u64 hV
  obtain ⟨T, rfl⟩ := Int.eq_ofNat_of_zero_le (show 0 ≤ T by omega)
  obtain ⟨V, rfl⟩ := Int.eq_ofNat_of_zero_le (show 0 ≤ V by omega)
  rw [e0] at hc
  exact ⟨b, o, hA, hb, K, N, T, V, a, m, c, ds, ⟨hs, hl, h1, by omega, h5⟩, by omega, by omega, hc 0 (by decide), by have := hc 1 (by decide); rwa [← Nat.add_assoc] at this, by have := hc 2 (by decide); rwa [← Nat.add_assoc] at this, by have := hc 3 (by decide); rwa [← Nat.add_assoc] at this, by have := hc 4 (by decide); rwa [← Nat.add_assoc] at this⟩
set_option maxRecDepth 100000 in
set_option maxHeartbeats 4000000 in
theorem memPlays_walk (W : World) (F : Int) (wF : (Lit.int .i64 F).wf = true) (A : Option Addr) (n c : Nat) (X : Nat → List Value) (hnc : n ≤ c) (hsz : c * 56 < 140737488355328) (hX : SliceIs2 enc Tryd.prog W actT A n X) (hA : A = none → c = 0) (hT : Widths W) :
    Calls Tryd.prog 6 #[.int .i64 F, .slice A n c] W fun r w' => r = .returned (.bool true) ∧ Grows W w' := by
  have hn : n ≤ 9223372036854775807 := by omega
  by_cases hF : F < 1 ∨ 65536 < F
  · go_enter Tryd.func6, Tryd.ntmps6
    go_wp2_with fail
    refine (new_bad F hF _).mono ?_
    rintro _ w1 ⟨rfl, hg1⟩
    go_wp2_with fail
    refine (rnew_bad F hF _).mono ?_
    rintro _ w2 ⟨rfl, hg2⟩
    go_wp2_with fail
    refine (names_any _).mono ?_
    rintro _ _ ⟨rfl, rfl⟩
    go_wp2_with fail
    go_ret
    exact ⟨rfl, hg1.trans hg2⟩
  · obtain ⟨F, rfl⟩ := Int.eq_ofNat_of_zero_le (show 0 ≤ F by omega)
    have h1 : 1 ≤ F := by omega
    have h2 : F ≤ 65536 := by omega
    clear hF
    have HT := Lib.hid hT
    go_enter Tryd.func6, Tryd.ntmps6
    go_wp2_with fail
    refine (new_ok F h1 h2 _).mono ?_
    rintro _ w1 ⟨p, q, rfl, hM1, hg1, hp, hq, hqp⟩
    go_wp2_with fail
    refine (rnew_ok F h1 h2 _).mono ?_
    rintro _ w2 ⟨p', q', rfl, hR2, hg2, hp', hq', hqp'⟩
    go_wp2_with fail
    refine (names_any _).mono ?_
    rintro _ _ ⟨rfl, hw⟩
    rw [hw]
    clear hw
    have hM2 := hM1.grows hg2
    have hB2 : Both w2 p q p' q' (F * 256) (fun _ => 0) := ⟨hM2, hR2, by have := hM1.plt; have := hM1.qlt; omega⟩
    have HW2 := Lib.hid (hg1.trans hg2)
    have HQ : Hid (W.heap.size ≤ q ∧ W.heap.size ≤ q') := Lib.hid (by have := hg1.size; omega)
    clear hg1 hg2 hp hq hp' hq' hM1 hR2 hqp hqp'
    generalize hN : F * 256 = N at *
    go_wp2_with fail
    refine (Clone_any hM2).mono ?_
    rintro _ w3 ⟨po, qo, rfl, hO3, hg3, hqo, hpo⟩
    have hM3 := hM2.grows hg3
    have hs := Same_any hO3 hM3
    rw [decide_eq_true rfl] at hs
    have hfr := fun w' (hg : Grows w3 w') => frames_any (hM3.grows hg)
    rw [show N / 256 = F by omega] at hfr
    go_wp2_with fail
    refine hs.mono ?_
    rintro _ w4 ⟨rfl, hg4⟩
    go_wp2_with fail
    refine (hfr _ hg4).mono ?_
    rintro _ _ ⟨rfl, hw⟩
    rw [hw]
    clear hw
    have hB4 := (hB2.grows hg3).grows hg4
    have hO4 := hO3.grows hg4
    have HW4 := Lib.hid ((HW2.out.trans hg3).trans hg4)
    have hne : po ≠ q ∧ po ≠ q' ∧ qo ≠ q ∧ qo ≠ q' := by have := hB2.m.qlt; have := hB2.r.qlt; omega
    have HNE := Lib.hid hne
    have HN := Lib.hid (show F * 256 = N from hN)
    clear hs hfr hg3 hg4 hM3 hO3 hqo hpo hM2 hB2 HW2 hne hN
    go_wp2_with fail
    go_loopw [10] (fun i wr => ∃ k : Nat, k ≤ n ∧ i = .int .i64 k ∧ (∃ C, Both wr p q p' q' N C) ∧ Mem wr po qo N (fun _ => 0) ∧ Grows W wr) (fun i _ => (n - intOf i).toNat)
    case atStart => exact ⟨0, by omega, rfl, ⟨_, hB4⟩, hO4, HW4.out⟩
    case round =>
      obtain ⟨k, hk, rfl, ⟨C, hBr⟩, hOr, hGr⟩ := hrel
      clear hB4 hO4
      by_cases hlt : k < n
      · obtain ⟨b, o, rfl, hb, K, N', T, V, a, m, cc, ds, hby, hT64, hN63, c0, c1, c2, c3, c4⟩ := act_at hX hlt
        have hdo := does_any (HT.out.grows hGr) hBr K T V N' hT64 hN63 a m cc ds (hby.src.grows hGr) hby.len hby.cap hby.small hby.nil (fun b' o' e h0 => by
          obtain ⟨b2, o2, e2, hb2, _⟩ := hby.src.at0 (by rw [hby.len]; exact h0)
          rw [e] at e2
          injection e2 with e2
          injection e2 with e2
          have := HQ.out
          omega)
        have d0 := (hGr.cell (o := o + k * 5) hb).trans c0
        have d1 := (hGr.cell (o := o + k * 5 + 1) hb).trans c1
        have d2 := (hGr.cell (o := o + k * 5 + 2) hb).trans c2
        have d3 := (hGr.cell (o := o + k * 5 + 3) hb).trans c3
        have d4 := (hGr.cell (o := o + k * 5 + 4) hb).trans c4
        have HOr := Lib.hid hOr
        have HGr := Lib.hid hGr
        clear hX c0 c1 c2 c3 c4 hBr hOr hGr hby
        go_wp2_with fail
        refine hdo.mono ?_
        rintro _ w6 ⟨rfl, hC6, hch⟩
        clear hdo d0 d1 d2 d3 d4
        go_wp2_with fail
        exact ⟨⟨k + 1, by omega, by simp, hC6, HOr.out.chg hch (by have := HNE.out; simp; omega) (by have := HNE.out; simp; omega), hch.to_grows HGr.out (by have := HQ.out; simp; omega)⟩, by simp [intOf]; omega⟩
      · have : k = n := by omega
        subst this
        clear hX
        have hN24 := hBr.m.hn
        have h1 := Bytes_ok hBr.m 0 N (by omega)
        obtain ⟨cR, r1, r2, r3⟩ := hBr.r.hd
        have cr : wr.cell? ⟨p', 0, none⟩ = some (.slice (some ⟨q', 0, none⟩) N cR) := r3.cell 0
        go_wp2_with fail
        refine h1.mono ?_
        rintro _ w5 ⟨v, rfl, b1, c1, rfl, s1, s2, hg5, hb1, hB1⟩
        have h2 := Bytes_ok (hOr.grows hg5) 0 N (by omega)
        have cr5 : w5.cell? ⟨p', 0, none⟩ = some (.slice (some ⟨q', 0, none⟩) N cR) := (r3.grows hg5).cell 0
        clear cr h1
        go_wp2_with fail
        refine h2.mono ?_
        rintro _ w6 ⟨v, rfl, b2, c2, rfl, t1, t2, hg6, hb2, hB2⟩
        have hB6 := (hBr.grows hg5).grows hg6
        have hO6 := (hOr.grows hg5).grows hg6
        have cr6 : ∀ w, Grows w6 w → w.cell? ⟨p', 0, none⟩ = some (.slice (some ⟨q', 0, none⟩) N cR) := fun w hg => (((r3.grows hg5).grows hg6).grows hg).cell 0
        have k1 : ∀ w, Grows w6 w → (convert 23 9 (.slice (some ⟨b1, 0, none⟩) N c1)).run Tryd.prog w = .ok (.string (strB (segB C 0 N))) w := fun w hg => by
          have := bts_conv (c := c1) (((hB1.congr (C := C) (fun i _ => by rw [Nat.zero_add])).grows hg6).grows hg)
          exact this
        have k2 : ∀ w, Grows w6 w → (convert 23 9 (.slice (some ⟨q', 0, none⟩) N cR)).run Tryd.prog w = .ok (.string (strB (segB C 0 N))) w := fun w hg => bts_conv (c := cR) (hB6.r.grows hg).bts
        have k3 : ∀ w, Grows w6 w → (convert 23 9 (.slice (some ⟨b2, 0, none⟩) N c2)).run Tryd.prog w = .ok (.string (strB (segB (fun _ => 0) 0 N))) w := fun w hg => bts_conv (c := c2) (hB2.grows hg)
        have hmk := run_make_u8' N (by omega)
        have k4 : ∀ w, Grows ((w6.alloc (.cells (madeCells #[.int .u8 0] N) 5)).drew) w → (convert 23 9 (.slice (some ⟨w6.heap.size, 0, none⟩) N N)).run Tryd.prog w = .ok (.string (strB (segB (fun _ => 0) 0 N))) w := fun w hg => bts_conv (c := N) (((Bts.made w6 N _).grows ((Grows.refl _).drew)).grows hg)
        have hsame := fun w (hg : Grows w6 w) => Same_any (hO6.grows hg) (hB6.m.grows hg)
        have hE : ((strB (segB C 0 N)).toList == (strB (segB (fun _ => 0) 0 N)).toList) = decide (segB (fun _ => 0) 0 N = segB C 0 N) := by
          rw [strB_beq (segB_bytes hB6.m.bts 0 N (by omega)).1 (segB_bytes hO6.bts 0 N (by omega)).1]
          congr 1
          exact propext eq_comm
        have HG6 := Lib.hid ((hGr.trans hg5).trans hg6)
        have lz := hB6.m.hn
        generalize decide (segB (fun _ => 0) 0 N = segB C 0 N) = E at *
        generalize strB (segB C 0 N) = S1 at *
        generalize strB (segB (fun _ => 0) 0 N) = S0 at *
        clear hBr hOr hGr hg5 hg6 hB1 hB2 hB6 hO6 r3 cr5 hb1 hb2 h2
        go_wp2_with fail
        refine wp_region_held_drew (S := fun w' => Grows w6 w') (by kernel_rfl) (Grows.refl _).drew (fun hHeld => ?_)
        refine wpAnyH_take (i := 0) (v := ?_) rfl (by kernel_rfl) (by kernel_rfl) (by kernel_rfl) (fun _ _ _ h => h) (Or.inl ⟨by rfl, ?_⟩) (by assumption) ?_
        rotate_left
        · intro w hSw
          go_simp
          try with_reducible rfl
        simp only [List.getElem_toArray, List.getElem_cons_succ, List.getElem_cons_zero, Act.put, List.setIfInBounds_toArray, List.set_cons_zero, List.set_cons_succ]
        refine wpAnyH_take (i := 1) (v := ?_) rfl (by kernel_rfl) (by kernel_rfl) (by kernel_rfl) (fun _ _ _ h => h) (Or.inl ⟨by rfl, ?_⟩) (by assumption) ?_
        rotate_left
        · intro w hSw
          go_simp
          try with_reducible rfl
        simp only [List.getElem_toArray, List.getElem_cons_succ, List.getElem_cons_zero, Act.put, List.setIfInBounds_toArray, List.set_cons_zero, List.set_cons_succ]
        refine wpAnyH_take (i := 2) (v := ?_) rfl (by kernel_rfl) (by kernel_rfl) (by kernel_rfl) (fun _ _ _ h => h) (Or.inl ⟨by rfl, ?_⟩) (by assumption) ?_
        rotate_left
        · intro w hSw
          go_simp
          try with_reducible rfl
        simp only [List.getElem_toArray, List.getElem_cons_succ, List.getElem_cons_zero, Act.put, List.setIfInBounds_toArray, List.set_cons_zero, List.set_cons_succ]
        refine wpAnyH_take (i := 3) (v := ?_) rfl (by kernel_rfl) (by kernel_rfl) (by kernel_rfl) (fun _ _ _ h => h) (Or.inl ⟨by rfl, ?_⟩) (by assumption) ?_
        rotate_left
        · intro w hSw
          go_simp
          try with_reducible rfl
        simp only [List.getElem_toArray, List.getElem_cons_succ, List.getElem_cons_zero, Act.put, List.setIfInBounds_toArray, List.set_cons_zero, List.set_cons_succ]
        refine wpAnyH_take (i := 4) (v := ?_) rfl (by kernel_rfl) (by kernel_rfl) (by kernel_rfl) (fun _ _ _ h => h) (Or.inl ⟨by rfl, ?_⟩) (by assumption) ?_
        rotate_left
        · intro w hSw
          go_simp
          try with_reducible rfl
        simp only [List.getElem_toArray, List.getElem_cons_succ, List.getElem_cons_zero, Act.put, List.setIfInBounds_toArray, List.set_cons_zero, List.set_cons_succ]
        refine wpAnyH_take (i := 5) (v := ?_) rfl (by kernel_rfl) (by kernel_rfl) (by kernel_rfl) (fun _ _ _ h => h) (Or.inl ⟨by rfl, ?_⟩) (by assumption) ?_
        rotate_left
        · intro w hSw
          go_simp
          try with_reducible rfl
        simp only [List.getElem_toArray, List.getElem_cons_succ, List.getElem_cons_zero, Act.put, List.setIfInBounds_toArray, List.set_cons_zero, List.set_cons_succ]
        refine wpAnyH_take (i := 6) (v := ?_) rfl (by kernel_rfl) (by kernel_rfl) (by kernel_rfl) (fun _ _ _ h => h) (Or.inl ⟨by rfl, ?_⟩) (by assumption) ?_
        rotate_left
        · intro w hSw
          go_simp
          try with_reducible rfl
        simp only [List.getElem_toArray, List.getElem_cons_succ, List.getElem_cons_zero, Act.put, List.setIfInBounds_toArray, List.set_cons_zero, List.set_cons_succ]
        refine wpAnyH_take (i := 7) (v := ?_) rfl (by kernel_rfl) (by kernel_rfl) (by kernel_rfl) (fun _ _ _ h => h) (Or.inl ⟨by rfl, ?_⟩) (by assumption) ?_
        rotate_left
        · intro w hSw
          go_simp
          try with_reducible rfl
        simp only [List.getElem_toArray, List.getElem_cons_succ, List.getElem_cons_zero, Act.put, List.setIfInBounds_toArray, List.set_cons_zero, List.set_cons_succ]
        refine wpAnyH_take (i := 8) (v := ?_) rfl (by kernel_rfl) (by kernel_rfl) (by kernel_rfl) (fun _ _ _ h => h) (Or.inl ⟨by rfl, ?_⟩) (by assumption) ?_
        rotate_left
        · intro w hSw
          go_simp
          try with_reducible rfl
        simp only [List.getElem_toArray, List.getElem_cons_succ, List.getElem_cons_zero, Act.put, List.setIfInBounds_toArray, List.set_cons_zero, List.set_cons_succ]
        refine wpAnyH_take (i := 9) (v := ?_) rfl (by kernel_rfl) (by kernel_rfl) (by kernel_rfl) (fun _ _ _ h => h) (Or.inl ⟨by rfl, ?_⟩) (by assumption) ?_
        rotate_left
        · intro w hSw
          go_simp
          try with_reducible rfl
        simp only [List.getElem_toArray, List.getElem_cons_succ, List.getElem_cons_zero, Act.put, List.setIfInBounds_toArray, List.set_cons_zero, List.set_cons_succ]
        refine wpAnyH_take (i := 10) (v := ?_) rfl (by kernel_rfl) (by kernel_rfl) (by kernel_rfl) (fun _ _ _ h => h) (Or.inl ⟨by rfl, ?_⟩) (by assumption) ?_
        rotate_left
        · intro w hSw
          go_simp
          try with_reducible rfl
        simp only [List.getElem_toArray, List.getElem_cons_succ, List.getElem_cons_zero, Act.put, List.setIfInBounds_toArray, List.set_cons_zero, List.set_cons_succ]
        refine wpAnyH_take (i := 11) (v := ?_) rfl (by kernel_rfl) (by kernel_rfl) (by kernel_rfl) (fun _ _ _ h => h) (Or.inl ⟨by rfl, ?_⟩) (by assumption) ?_
        rotate_left
        · intro w hSw
          go_simp
          try with_reducible rfl
        simp only [List.getElem_toArray, List.getElem_cons_succ, List.getElem_cons_zero, Act.put, List.setIfInBounds_toArray, List.set_cons_zero, List.set_cons_succ]
        refine wpAnyH_take (i := 12) (v := ?_) rfl (by kernel_rfl) (by kernel_rfl) (by kernel_rfl) (fun _ _ _ h => h) (Or.inl ⟨by rfl, ?_⟩) (by assumption) ?_
        rotate_left
        · intro w hSw
          go_simp
          try with_reducible rfl
        simp only [List.getElem_toArray, List.getElem_cons_succ, List.getElem_cons_zero, Act.put, List.setIfInBounds_toArray, List.set_cons_zero, List.set_cons_succ]
        refine wpAnyH_take (i := 13) (v := ?_) rfl (by kernel_rfl) (by kernel_rfl) (by kernel_rfl) (fun _ _ _ h => h) (Or.inl ⟨by rfl, ?_⟩) (by assumption) ?_
        rotate_left
        · intro w hSw
          go_simp
          try with_reducible rfl
        simp only [List.getElem_toArray, List.getElem_cons_succ, List.getElem_cons_zero, Act.put, List.setIfInBounds_toArray, List.set_cons_zero, List.set_cons_succ]
        refine wpAnyH_take (i := 14) (v := ?_) rfl (by kernel_rfl) (by kernel_rfl) (by kernel_rfl) (fun _ _ _ h => h) (Or.inl ⟨by rfl, ?_⟩) (by assumption) ?_
        rotate_left
        · intro w hSw
          go_simp
          try with_reducible rfl
        simp only [List.getElem_toArray, List.getElem_cons_succ, List.getElem_cons_zero, Act.put, List.setIfInBounds_toArray, List.set_cons_zero, List.set_cons_succ]
        refine wpAnyH_take (i := 15) (v := ?_) rfl (by kernel_rfl) (by kernel_rfl) (by kernel_rfl) (fun _ _ _ h => h) (Or.inl ⟨by rfl, ?_⟩) (by assumption) ?_
        rotate_left
        · intro w hSw
          go_simp
          try with_reducible rfl
        simp only [List.getElem_toArray, List.getElem_cons_succ, List.getElem_cons_zero, Act.put, List.setIfInBounds_toArray, List.set_cons_zero, List.set_cons_succ]
        refine wpAnyH_take (i := 16) (v := ?_) rfl (by kernel_rfl) (by kernel_rfl) (by kernel_rfl) (fun _ _ _ h => h) (Or.inl ⟨by rfl, ?_⟩) (by assumption) ?_
        rotate_left
        · intro w hSw
          go_simp
          try with_reducible rfl
        simp only [List.getElem_toArray, List.getElem_cons_succ, List.getElem_cons_zero, Act.put, List.setIfInBounds_toArray, List.set_cons_zero, List.set_cons_succ]
        refine wpAnyH_take (i := 17) (v := ?_) rfl (by kernel_rfl) (by kernel_rfl) (by kernel_rfl) (fun _ _ _ h => h) (Or.inl ⟨by rfl, ?_⟩) (by assumption) ?_
        rotate_left
        · intro w hSw
          go_simp
          try with_reducible rfl
        simp only [List.getElem_toArray, List.getElem_cons_succ, List.getElem_cons_zero, Act.put, List.setIfInBounds_toArray, List.set_cons_zero, List.set_cons_succ]
        refine wpAnyH_take (i := 18) (v := ?_) rfl (by kernel_rfl) (by kernel_rfl) (by kernel_rfl) (fun _ _ _ h => h) (Or.inl ⟨by rfl, ?_⟩) (by assumption) ?_
        rotate_left
        · intro w hSw
          go_simp
          try with_reducible rfl
        simp only [List.getElem_toArray, List.getElem_cons_succ, List.getElem_cons_zero, Act.put, List.setIfInBounds_toArray, List.set_cons_zero, List.set_cons_succ]
        refine wpAnyH_take (i := 19) (v := ?_) rfl (by kernel_rfl) (by kernel_rfl) (by kernel_rfl) (fun _ _ _ h => h) (Or.inl ⟨by rfl, ?_⟩) (by assumption) ?_
        rotate_left
        · intro w hSw
          go_simp
          try with_reducible rfl
        simp only [List.getElem_toArray, List.getElem_cons_succ, List.getElem_cons_zero, Act.put, List.setIfInBounds_toArray, List.set_cons_zero, List.set_cons_succ]
        refine wpAnyH_take (i := 20) (v := ?_) rfl (by kernel_rfl) (by kernel_rfl) (by kernel_rfl) (fun _ _ _ h => h) (Or.inl ⟨by rfl, ?_⟩) (by assumption) ?_
        rotate_left
        · intro w hSw
          go_simp
          try with_reducible rfl
        simp only [List.getElem_toArray, List.getElem_cons_succ, List.getElem_cons_zero, Act.put, List.setIfInBounds_toArray, List.set_cons_zero, List.set_cons_succ]
        refine wpAnyH_take (i := 21) (v := ?_) rfl (by kernel_rfl) (by kernel_rfl) (by kernel_rfl) (fun _ _ _ h => h) (Or.inl ⟨by rfl, ?_⟩) (by assumption) ?_
        rotate_left
        · intro w hSw
          go_simp
          try with_reducible rfl
        simp only [List.getElem_toArray, List.getElem_cons_succ, List.getElem_cons_zero, Act.put, List.setIfInBounds_toArray, List.set_cons_zero, List.set_cons_succ]
        refine wpAnyH_take (i := 22) (v := ?_) rfl (by kernel_rfl) (by kernel_rfl) (by kernel_rfl) (fun _ _ _ h => h) (Or.inl ⟨by rfl, ?_⟩) (by assumption) ?_
        rotate_left
        · intro w hSw
          go_simp
          try with_reducible rfl
        simp only [List.getElem_toArray, List.getElem_cons_succ, List.getElem_cons_zero, Act.put, List.setIfInBounds_toArray, List.set_cons_zero, List.set_cons_succ]
        refine wpAnyH_take (i := 23) (v := ?_) rfl (by kernel_rfl) (by kernel_rfl) (by kernel_rfl) (fun _ _ _ h => h) (Or.inl ⟨by rfl, ?_⟩) (by assumption) ?_
        rotate_left
        · intro w hSw
          go_simp
          try with_reducible rfl
        simp only [List.getElem_toArray, List.getElem_cons_succ, List.getElem_cons_zero, Act.put, List.setIfInBounds_toArray, List.set_cons_zero, List.set_cons_succ]
        refine wpAnyH_ready (rs := [24]) (by kernel_rfl) (by simp) ?_
        refine AllReadyH.cons rfl (fun K hK => ?_) AllReadyH.nil
        go_simp
        refine hK.out _ _ (((Grows.refl _).alloc _).drew) (fun hHeld2 => ?_)
        clear hK K
        refine wpAnyH_mono (T := fun w' => Grows ((w6.alloc (.cells (madeCells #[.int .u8 0] N) 5)).drew) w') (fun w hw => (((Grows.refl w6).alloc _).drew).trans hw) _ _ _ _ ?_
        have hHeld3 := Grows.refl ((w6.alloc (.cells (madeCells #[.int .u8 0] N) 5)).drew)
        have k1 : ∀ w, Grows ((w6.alloc (.cells (madeCells #[.int .u8 0] N) 5)).drew) w → (convert 23 9 (.slice (some ⟨b1, 0, none⟩) N c1)).run Tryd.prog w = .ok (.string S1) w := fun w hg => k1 w ((((Grows.refl w6).alloc _).drew).trans hg)
        have k3 : ∀ w, Grows ((w6.alloc (.cells (madeCells #[.int .u8 0] N) 5)).drew) w → (convert 23 9 (.slice (some ⟨b2, 0, none⟩) N c2)).run Tryd.prog w = .ok (.string S0) w := fun w hg => k3 w ((((Grows.refl w6).alloc _).drew).trans hg)
        have hsame2 := hsame _ (((Grows.refl w6).alloc (.cells (madeCells #[.int .u8 0] N) 5)).drew)
        have HG7 := Lib.hid (HG6.out.trans (((Grows.refl w6).alloc (.cells (madeCells #[.int .u8 0] N) 5)).drew))
        clear hHeld hHeld2 k2 hmk cr6 hsame
        generalize ((w6.alloc (.cells (madeCells #[.int .u8 0] N) 5)).drew) = w7 at *
        refine wpAnyH_take (i := 25) (v := ?_) rfl (by kernel_rfl) (by kernel_rfl) (by kernel_rfl) (fun _ _ _ h => h) (Or.inl ⟨by rfl, ?_⟩) (by assumption) ?_
        rotate_left
        · intro w hSw
          go_simp
          try with_reducible rfl
        simp only [List.getElem_toArray, List.getElem_cons_succ, List.getElem_cons_zero, Act.put, List.setIfInBounds_toArray, List.set_cons_zero, List.set_cons_succ]
        refine wpAnyH_take (i := 26) (v := ?_) rfl (by kernel_rfl) (by kernel_rfl) (by kernel_rfl) (fun _ _ _ h => h) (Or.inl ⟨by rfl, ?_⟩) (by assumption) ?_
        rotate_left
        · intro w hSw
          go_simp
          try with_reducible rfl
        simp only [List.getElem_toArray, List.getElem_cons_succ, List.getElem_cons_zero, Act.put, List.setIfInBounds_toArray, List.set_cons_zero, List.set_cons_succ]
        refine wpAnyH_take (i := 27) (v := ?_) rfl (by kernel_rfl) (by kernel_rfl) (by kernel_rfl) (fun _ _ _ h => h) (Or.inl ⟨by rfl, ?_⟩) (by assumption) ?_
        rotate_left
        · intro w hSw
          go_simp
          try with_reducible rfl
        simp only [List.getElem_toArray, List.getElem_cons_succ, List.getElem_cons_zero, Act.put, List.setIfInBounds_toArray, List.set_cons_zero, List.set_cons_succ]
        refine wpAnyH_take (i := 28) (v := ?_) rfl (by kernel_rfl) (by kernel_rfl) (by kernel_rfl) (fun _ _ _ h => h) (Or.inl ⟨by rfl, ?_⟩) (by assumption) ?_
        rotate_left
        · intro w hSw
          go_simp
          try with_reducible rfl
        simp only [List.getElem_toArray, List.getElem_cons_succ, List.getElem_cons_zero, Act.put, List.setIfInBounds_toArray, List.set_cons_zero, List.set_cons_succ]
        refine wpAnyH_take (i := 29) (v := ?_) rfl (by kernel_rfl) (by kernel_rfl) (by kernel_rfl) (fun _ _ _ h => h) (Or.inl ⟨by rfl, ?_⟩) (by assumption) ?_
        rotate_left
        · intro w hSw
          go_simp
          try with_reducible rfl
        simp only [List.getElem_toArray, List.getElem_cons_succ, List.getElem_cons_zero, Act.put, List.setIfInBounds_toArray, List.set_cons_zero, List.set_cons_succ]
        refine wpAnyH_take (i := 30) (v := ?_) rfl (by kernel_rfl) (by kernel_rfl) (by kernel_rfl) (fun _ _ _ h => h) (Or.inl ⟨by rfl, ?_⟩) (by assumption) ?_
        rotate_left
        · intro w hSw
          go_simp
          try with_reducible rfl
        simp only [List.getElem_toArray, List.getElem_cons_succ, List.getElem_cons_zero, Act.put, List.setIfInBounds_toArray, List.set_cons_zero, List.set_cons_succ]
        refine wpAnyH_take (i := 32) (v := ?_) rfl (by kernel_rfl) (by kernel_rfl) (by kernel_rfl) (fun _ _ _ h => h) (Or.inl ⟨by rfl, ?_⟩) (by assumption) ?_
        rotate_left
        · intro w hSw
          go_simp
          try with_reducible rfl
        simp only [List.getElem_toArray, List.getElem_cons_succ, List.getElem_cons_zero, Act.put, List.setIfInBounds_toArray, List.set_cons_zero, List.set_cons_succ]
        refine wpAnyH_take (i := 33) (v := ?_) rfl (by kernel_rfl) (by kernel_rfl) (by kernel_rfl) (fun _ _ _ h => h) (Or.inl ⟨by rfl, ?_⟩) (by assumption) ?_
        rotate_left
        · intro w hSw
          go_simp
          try with_reducible rfl
        simp only [List.getElem_toArray, List.getElem_cons_succ, List.getElem_cons_zero, Act.put, List.setIfInBounds_toArray, List.set_cons_zero, List.set_cons_succ]
        refine wpAnyH_take (i := 34) (v := ?_) rfl (by kernel_rfl) (by kernel_rfl) (by kernel_rfl) (fun _ _ _ h => h) (Or.inl ⟨by rfl, ?_⟩) (by assumption) ?_
        rotate_left
        · intro w hSw
          go_simp
          try with_reducible rfl
        simp only [List.getElem_toArray, List.getElem_cons_succ, List.getElem_cons_zero, Act.put, List.setIfInBounds_toArray, List.set_cons_zero, List.set_cons_succ]
        refine wpAnyH_take (i := 35) (v := ?_) rfl (by kernel_rfl) (by kernel_rfl) (by kernel_rfl) (fun _ _ _ h => h) (Or.inl ⟨by rfl, ?_⟩) (by assumption) ?_
        rotate_left
        · intro w hSw
          go_simp
          try with_reducible rfl
        simp only [List.getElem_toArray, List.getElem_cons_succ, List.getElem_cons_zero, Act.put, List.setIfInBounds_toArray, List.set_cons_zero, List.set_cons_succ]
        refine wpAnyH_take (i := 36) (v := ?_) rfl (by kernel_rfl) (by kernel_rfl) (by kernel_rfl) (fun _ _ _ h => h) (Or.inl ⟨by rfl, ?_⟩) (by assumption) ?_
        rotate_left
        · intro w hSw
          go_simp
          try with_reducible rfl
        simp only [List.getElem_toArray, List.getElem_cons_succ, List.getElem_cons_zero, Act.put, List.setIfInBounds_toArray, List.set_cons_zero, List.set_cons_succ]
        refine wpAnyH_ready (rs := [31]) (by kernel_rfl) (by simp) ?_
        refine AllReadyH.cons rfl (fun K hK => ?_) AllReadyH.nil
        go_simp
        refine hsame2.mono ?_
        rintro _ w8 ⟨rfl, hg7⟩
        go_wp2_with fail
        refine hK.out _ _ hg7 (fun hHeld4 => ?_)
        clear hK K
        clear hHeld3
        refine wpAnyH_take (i := 37) (v := ?_) rfl (by kernel_rfl) (by kernel_rfl) (by kernel_rfl) (fun _ _ _ h => h) (Or.inl ⟨by rfl, ?_⟩) (by assumption) ?_
        rotate_left
        · intro w hSw
          go_simp
          try with_reducible rfl
        simp only [List.getElem_toArray, List.getElem_cons_succ, List.getElem_cons_zero, Act.put, List.setIfInBounds_toArray, List.set_cons_zero, List.set_cons_succ]
        refine wpAnyH_take (i := 38) (v := ?_) rfl (by kernel_rfl) (by kernel_rfl) (by kernel_rfl) (fun _ _ _ h => h) (Or.inl ⟨by rfl, ?_⟩) (by assumption) ?_
        rotate_left
        · intro w hSw
          go_simp
          try with_reducible rfl
        simp only [List.getElem_toArray, List.getElem_cons_succ, List.getElem_cons_zero, Act.put, List.setIfInBounds_toArray, List.set_cons_zero, List.set_cons_succ]
        refine wpAnyH_take (i := 39) (v := ?_) rfl (by kernel_rfl) (by kernel_rfl) (by kernel_rfl) (fun _ _ _ h => h) (Or.inl ⟨by rfl, ?_⟩) (by assumption) ?_
        rotate_left
        · intro w hSw
          go_simp
          try with_reducible rfl
        simp only [List.getElem_toArray, List.getElem_cons_succ, List.getElem_cons_zero, Act.put, List.setIfInBounds_toArray, List.set_cons_zero, List.set_cons_succ]
        refine wpAnyH_done (by kernel_rfl) ?_ _
        go_wp2_with fail
        go_ret
        exact ⟨by simp, HG7.out.trans hg7⟩
end
end Go.Proofs.YtoehigcojgeioaaDoor
