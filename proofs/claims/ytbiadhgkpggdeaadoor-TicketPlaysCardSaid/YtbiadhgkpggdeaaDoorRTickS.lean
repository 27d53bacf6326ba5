/- The reference's step and its new lock. -/
import Derived.Test.YtbiadhgkpggdeaaDoorRTick
import Derived.Test.YtbiadhgkpggdeaaDoorTickLaw
namespace Go.Proofs.YtbiadhgkpggdeaaDoor
open Go Go.RowKit
set_option linter.unusedSimpArgs false
set_option linter.unusedVariables false
theorem rLoad_num {w : World} {rp rq N : Nat} {B : Nat → Nat} (h : RMem w rp rq N B) (X V : Nat) (h8 : X % 8 = 0) (hN : X + 8 ≤ N) (hV : numB B X = V) (g : Pad) :
    Calls Tryd.prog 31 #[.pointer (some ⟨rp, 0, none⟩), .int .u64 X, .int .i64 8] (w.grow g) fun r w' => r = .returned (.tuple #[.int .u64 V, .int .i64 0]) ∧ ∃ h, w' = w.grow h := by
  have := rLoad_ok (h.grows (Grows.of _ g)) X 8 rfl h8 hN
  rw [show loadN (segB B X 8) = V from hV] at this
  exact this.mono fun _ _ ⟨he, hg⟩ => ⟨he, (Grows.of w g).trans hg⟩
set_option maxRecDepth 100000 in
theorem rstep_0 {w : World} {rl rp rq N A qs qt n i s nx nw : Nat} {B S T : Nat → Nat} (h : RReady w rl rp rq N A qs qt n B S T) (hi : i < n) (hs : S i = s) (h03 : s = 0 ∨ s = 3) (hnx : numB B A = nx) (hnw : numB B (A + 8) = nw) :
    Calls Tryd.prog 19 #[.pointer (some ⟨rl, 0, none⟩), .int .i64 i] w fun r w' => r = .returned (.tuple #[.int .i64 s, .int .i64 0]) ∧ RReady w' rl rp rq N A qs qt n B (updN S i s) T ∧ Chg [qs, qt, rq] w w' := by
  have HU : Hid (updN S i s = S) := by
    show _ = _
    funext j; unfold updN; split
    · rename_i hj; rw [hj, hs]
    · rfl
  rw [HU.out]
  have hh := Has_yes h hi
  obtain ⟨c0, c1, c2, c3⟩ := h.cells
  have l1 := h.hd.lt
  have hN := h.m.hn
  have haN := h.aN
  have hn8 := h.n8
  have e8 : IntKind.u64.wrap ((A : Int) + 8) = (A : Int) + 8 := wrap_u64_small (by omega) (by omega)
  have HLD : Hid (∀ w', Grows w w' → ∀ g, Calls Tryd.prog 31 #[.pointer (some ⟨rp, 0, none⟩), .int .u64 A, .int .i64 8] (w'.grow g) fun r w2 => r = .returned (.tuple #[.int .u64 (numB B A : Nat), .int .i64 0]) ∧ ∃ h, w2 = w'.grow h) :=
    fun w' hg g => rLoad_num (h.m.grows hg) A _ h.a8 (by omega) rfl g
  have HLD8 : Hid (∀ w', Grows w w' → ∀ g, Calls Tryd.prog 31 #[.pointer (some ⟨rp, 0, none⟩), .int .u64 ((A : Int) + 8), .int .i64 8] (w'.grow g) fun r w2 => r = .returned (.tuple #[.int .u64 (numB B (A + 8) : Nat), .int .i64 0]) ∧ ∃ h, w2 = w'.grow h) :=
    fun w' hg g => by
      rw [show (A : Int) + 8 = ((A + 8 : Nat) : Int) by omega]
      exact rLoad_num (h.m.grows hg) (A + 8) _ (by have := h.a8; omega) (by omega) rfl g
  have HB : Hid (numB B A = nx ∧ numB B (A + 8) = nw) := Lib.hid ⟨hnx, hnw⟩
  rw [hnx] at HLD
  rw [hnw] at HLD8
  clear hnx hnw
  have HH := Lib.hid h
  have HS := Lib.hid hs
  clear h hs
  go_enter Tryd.func19, Tryd.ntmps19
  go_wp2_with fail
  refine hh.mono ?_
  rintro _ _ ⟨rfl, hw⟩
  rw [hw]
  clear hw hh
  go_wp2_with fail
  refine wp_region_grow (by kernel_rfl) (by kernel_rfl) ?_
  repeat (go_big_quiet_step ((go_at_call 31 <;> exact HLD.out _ (Grows.refl _) _)))
  refine wpQuiet_nil ?_
  intro _ hw'
  obtain ⟨g1, rfl⟩ := hw'
  obtain ⟨w1, hw1⟩ : ∃ w1, w1 = w.grow g1 := ⟨_, rfl⟩
  have G1 : Hid (Grows w w1) := by show Grows _ _; rw [hw1]; exact Grows.of w g1
  rw [← hw1]
  clear hw1 c0 c1 c2 c3 l1
  have H1 := Lib.hid (HH.out.grows G1.out)
  obtain ⟨c0, c1, c2, c3⟩ := H1.out.cells
  have l1 := H1.out.hd.lt
  go_wp2_with fail
  refine wp_region_grow (by kernel_rfl) (by kernel_rfl) ?_
  repeat (go_big_quiet_step ((go_at_call 31 <;> exact HLD8.out _ G1.out _)))
  refine wpQuiet_nil ?_
  intro _ hw'
  obtain ⟨g2, rfl⟩ := hw'
  obtain ⟨w2, hw2⟩ : ∃ w2, w2 = w1.grow g2 := ⟨_, rfl⟩
  have HG : Hid (Grows w w2) := by show Grows _ _; rw [hw2]; exact G1.out.trans (Grows.of w1 g2)
  rw [← hw2]
  clear hw2 G1 H1 HLD HLD8 c0 c1 c2 c3 l1
  have H2 := Lib.hid (HH.out.grows HG.out)
  obtain ⟨c0, c1, c2, c3⟩ := H2.out.cells
  have cs := H2.out.st.cell hi
  have ct := H2.out.tk.cell hi
  have fs := H2.out.st.frozen i
  have ft := H2.out.tk.frozen i
  rw [HS.out] at cs
  have nrq := H2.out.ne.1
  have nqr : qs ≠ rl := fun h => nrq h.symm
  have lq := H2.out.st.lt
  rcases h03 with rfl | rfl
  · go_wp2_with fail
    go_ret2
    exact ⟨rfl, H2.out, Chg.of_grows HG.out⟩
  · go_wp2_with fail
    go_ret2
    exact ⟨rfl, H2.out, Chg.of_grows HG.out⟩
set_option maxRecDepth 100000 in
theorem rstep_2 {w : World} {rl rp rq N A qs qt n i nx nw : Nat} {B S T : Nat → Nat} (h : RReady w rl rp rq N A qs qt n B S T) (hi : i < n) (hs : S i = 2) (hnx : numB B A = nx) (hnw : numB B (A + 8) = nw) :
    Calls Tryd.prog 19 #[.pointer (some ⟨rl, 0, none⟩), .int .i64 i] w fun r w' => r = .returned (.tuple #[.int .i64 ((if nw = T i then 3 else 2 : Nat) : Int), .int .i64 0]) ∧ RReady w' rl rp rq N A qs qt n B (updN S i (if nw = T i then 3 else 2)) T ∧ Chg [qs, qt, rq] w w' := by
  have HU : Hid (updN S i 2 = S) := by
    show _ = _
    funext j; unfold updN; split
    · rename_i hj; rw [hj, hs]
    · rfl
  by_cases hv : nw = T i
  · rw [if_pos hv]
    have hd : ((nw : Int) == (T i : Int)) = true := by simp; omega
    have HV := Lib.hid hv
    clear hv
    have hh := Has_yes h hi
    obtain ⟨c0, c1, c2, c3⟩ := h.cells
    have l1 := h.hd.lt
    have hN := h.m.hn
    have haN := h.aN
    have hn8 := h.n8
    have e8 : IntKind.u64.wrap ((A : Int) + 8) = (A : Int) + 8 := wrap_u64_small (by omega) (by omega)
    have HLD : Hid (∀ w', Grows w w' → ∀ g, Calls Tryd.prog 31 #[.pointer (some ⟨rp, 0, none⟩), .int .u64 A, .int .i64 8] (w'.grow g) fun r w2 => r = .returned (.tuple #[.int .u64 (numB B A : Nat), .int .i64 0]) ∧ ∃ h, w2 = w'.grow h) :=
      fun w' hg g => rLoad_num (h.m.grows hg) A _ h.a8 (by omega) rfl g
    have HLD8 : Hid (∀ w', Grows w w' → ∀ g, Calls Tryd.prog 31 #[.pointer (some ⟨rp, 0, none⟩), .int .u64 ((A : Int) + 8), .int .i64 8] (w'.grow g) fun r w2 => r = .returned (.tuple #[.int .u64 (numB B (A + 8) : Nat), .int .i64 0]) ∧ ∃ h, w2 = w'.grow h) :=
      fun w' hg g => by
        rw [show (A : Int) + 8 = ((A + 8 : Nat) : Int) by omega]
        exact rLoad_num (h.m.grows hg) (A + 8) _ (by have := h.a8; omega) (by omega) rfl g
    have HB : Hid (numB B A = nx ∧ numB B (A + 8) = nw) := Lib.hid ⟨hnx, hnw⟩
    rw [hnx] at HLD
    rw [hnw] at HLD8
    clear hnx hnw
    have HH := Lib.hid h
    have HS := Lib.hid hs
    clear h hs
    go_enter Tryd.func19, Tryd.ntmps19
    go_wp2_with fail
    refine hh.mono ?_
    rintro _ _ ⟨rfl, hw⟩
    rw [hw]
    clear hw hh
    go_wp2_with fail
    refine wp_region_grow (by kernel_rfl) (by kernel_rfl) ?_
    repeat (go_big_quiet_step ((go_at_call 31 <;> exact HLD.out _ (Grows.refl _) _)))
    refine wpQuiet_nil ?_
    intro _ hw'
    obtain ⟨g1, rfl⟩ := hw'
    obtain ⟨w1, hw1⟩ : ∃ w1, w1 = w.grow g1 := ⟨_, rfl⟩
    have G1 : Hid (Grows w w1) := by show Grows _ _; rw [hw1]; exact Grows.of w g1
    rw [← hw1]
    clear hw1 c0 c1 c2 c3 l1
    have H1 := Lib.hid (HH.out.grows G1.out)
    obtain ⟨c0, c1, c2, c3⟩ := H1.out.cells
    have l1 := H1.out.hd.lt
    go_wp2_with fail
    refine wp_region_grow (by kernel_rfl) (by kernel_rfl) ?_
    repeat (go_big_quiet_step ((go_at_call 31 <;> exact HLD8.out _ G1.out _)))
    refine wpQuiet_nil ?_
    intro _ hw'
    obtain ⟨g2, rfl⟩ := hw'
    obtain ⟨w2, hw2⟩ : ∃ w2, w2 = w1.grow g2 := ⟨_, rfl⟩
    have HG : Hid (Grows w w2) := by show Grows _ _; rw [hw2]; exact G1.out.trans (Grows.of w1 g2)
    rw [← hw2]
    clear hw2 G1 H1 HLD HLD8 c0 c1 c2 c3 l1
    have H2 := Lib.hid (HH.out.grows HG.out)
    obtain ⟨c0, c1, c2, c3⟩ := H2.out.cells
    have cs := H2.out.st.cell hi
    have ct := H2.out.tk.cell hi
    have fs := H2.out.st.frozen i
    have ft := H2.out.tk.frozen i
    rw [HS.out] at cs
    have nrq := H2.out.ne.1
    have nqr : qs ≠ rl := fun h => nrq h.symm
    have lq := H2.out.st.lt
    generalize T i = X at *
    go_wp2_with fail
    go_ret2
    exact ⟨rfl, H2.out.setS hi 3, (Chg.of_grows HG.out).setCell (Or.inl (by simp)) _ _⟩
  · rw [if_neg hv]
    have hd : ((nw : Int) == (T i : Int)) = false := by simp; omega
    clear hv
    have hh := Has_yes h hi
    obtain ⟨c0, c1, c2, c3⟩ := h.cells
    have l1 := h.hd.lt
    have hN := h.m.hn
    have haN := h.aN
    have hn8 := h.n8
    have e8 : IntKind.u64.wrap ((A : Int) + 8) = (A : Int) + 8 := wrap_u64_small (by omega) (by omega)
    have HLD : Hid (∀ w', Grows w w' → ∀ g, Calls Tryd.prog 31 #[.pointer (some ⟨rp, 0, none⟩), .int .u64 A, .int .i64 8] (w'.grow g) fun r w2 => r = .returned (.tuple #[.int .u64 (numB B A : Nat), .int .i64 0]) ∧ ∃ h, w2 = w'.grow h) :=
      fun w' hg g => rLoad_num (h.m.grows hg) A _ h.a8 (by omega) rfl g
    have HLD8 : Hid (∀ w', Grows w w' → ∀ g, Calls Tryd.prog 31 #[.pointer (some ⟨rp, 0, none⟩), .int .u64 ((A : Int) + 8), .int .i64 8] (w'.grow g) fun r w2 => r = .returned (.tuple #[.int .u64 (numB B (A + 8) : Nat), .int .i64 0]) ∧ ∃ h, w2 = w'.grow h) :=
      fun w' hg g => by
        rw [show (A : Int) + 8 = ((A + 8 : Nat) : Int) by omega]
        exact rLoad_num (h.m.grows hg) (A + 8) _ (by have := h.a8; omega) (by omega) rfl g
    have HB : Hid (numB B A = nx ∧ numB B (A + 8) = nw) := Lib.hid ⟨hnx, hnw⟩
    rw [hnx] at HLD
    rw [hnw] at HLD8
    clear hnx hnw
    have HH := Lib.hid h
    have HS := Lib.hid hs
    clear h hs
    go_enter Tryd.func19, Tryd.ntmps19
    go_wp2_with fail
    refine hh.mono ?_
    rintro _ _ ⟨rfl, hw⟩
    rw [hw]
    clear hw hh
    go_wp2_with fail
    refine wp_region_grow (by kernel_rfl) (by kernel_rfl) ?_
    repeat (go_big_quiet_step ((go_at_call 31 <;> exact HLD.out _ (Grows.refl _) _)))
    refine wpQuiet_nil ?_
    intro _ hw'
    obtain ⟨g1, rfl⟩ := hw'
    obtain ⟨w1, hw1⟩ : ∃ w1, w1 = w.grow g1 := ⟨_, rfl⟩
    have G1 : Hid (Grows w w1) := by show Grows _ _; rw [hw1]; exact Grows.of w g1
    rw [← hw1]
    clear hw1 c0 c1 c2 c3 l1
    have H1 := Lib.hid (HH.out.grows G1.out)
    obtain ⟨c0, c1, c2, c3⟩ := H1.out.cells
    have l1 := H1.out.hd.lt
    go_wp2_with fail
    refine wp_region_grow (by kernel_rfl) (by kernel_rfl) ?_
    repeat (go_big_quiet_step ((go_at_call 31 <;> exact HLD8.out _ G1.out _)))
    refine wpQuiet_nil ?_
    intro _ hw'
    obtain ⟨g2, rfl⟩ := hw'
    obtain ⟨w2, hw2⟩ : ∃ w2, w2 = w1.grow g2 := ⟨_, rfl⟩
    have HG : Hid (Grows w w2) := by show Grows _ _; rw [hw2]; exact G1.out.trans (Grows.of w1 g2)
    rw [← hw2]
    clear hw2 G1 H1 HLD HLD8 c0 c1 c2 c3 l1
    have H2 := Lib.hid (HH.out.grows HG.out)
    obtain ⟨c0, c1, c2, c3⟩ := H2.out.cells
    have cs := H2.out.st.cell hi
    have ct := H2.out.tk.cell hi
    have fs := H2.out.st.frozen i
    have ft := H2.out.tk.frozen i
    rw [HS.out] at cs
    have nrq := H2.out.ne.1
    have nqr : qs ≠ rl := fun h => nrq h.symm
    have lq := H2.out.st.lt
    generalize T i = X at *
    go_wp2_with fail
    go_ret2
    exact ⟨rfl, by rw [HU.out]; exact H2.out, Chg.of_grows HG.out⟩
set_option maxRecDepth 100000 in
theorem rstep_1 {w : World} {rl rp rq N A qs qt n i nx nw : Nat} {B S T : Nat → Nat} (h : RReady w rl rp rq N A qs qt n B S T) (hi : i < n) (hs : S i = 1) (hnx : numB B A = nx) (hnw : numB B (A + 8) = nw) :
    Calls Tryd.prog 19 #[.pointer (some ⟨rl, 0, none⟩), .int .i64 i] w fun r w' => r = .returned (.tuple #[.int .i64 2, .int .i64 0]) ∧ RReady w' rl rp rq N A qs qt n (incB B A) (updN S i 2) (updN T i nx) ∧ Chg [qs, qt, rq] w w' := by
  have E1 := Lib.hid (inc64_wrap nx)
  have HI : Hid (incB B A = putB B A (leB (inc64 nx) 8)) := by show _ = _; unfold incB; rw [hnx]
  rw [HI.out]
  have hh := Has_yes h hi
  obtain ⟨c0, c1, c2, c3⟩ := h.cells
  have l1 := h.hd.lt
  have hN := h.m.hn
  have haN := h.aN
  have hn8 := h.n8
  have e8 : IntKind.u64.wrap ((A : Int) + 8) = (A : Int) + 8 := wrap_u64_small (by omega) (by omega)
  have HLD : Hid (∀ w', Grows w w' → ∀ g, Calls Tryd.prog 31 #[.pointer (some ⟨rp, 0, none⟩), .int .u64 A, .int .i64 8] (w'.grow g) fun r w2 => r = .returned (.tuple #[.int .u64 (numB B A : Nat), .int .i64 0]) ∧ ∃ h, w2 = w'.grow h) :=
    fun w' hg g => rLoad_num (h.m.grows hg) A _ h.a8 (by omega) rfl g
  have HLD8 : Hid (∀ w', Grows w w' → ∀ g, Calls Tryd.prog 31 #[.pointer (some ⟨rp, 0, none⟩), .int .u64 ((A : Int) + 8), .int .i64 8] (w'.grow g) fun r w2 => r = .returned (.tuple #[.int .u64 (numB B (A + 8) : Nat), .int .i64 0]) ∧ ∃ h, w2 = w'.grow h) :=
    fun w' hg g => by
      rw [show (A : Int) + 8 = ((A + 8 : Nat) : Int) by omega]
      exact rLoad_num (h.m.grows hg) (A + 8) _ (by have := h.a8; omega) (by omega) rfl g
  have HB : Hid (numB B A = nx ∧ numB B (A + 8) = nw) := Lib.hid ⟨hnx, hnw⟩
  rw [hnx] at HLD
  rw [hnw] at HLD8
  clear hnx hnw
  have HH := Lib.hid h
  have HS := Lib.hid hs
  clear h hs
  go_enter Tryd.func19, Tryd.ntmps19
  go_wp2_with fail
  refine hh.mono ?_
  rintro _ _ ⟨rfl, hw⟩
  rw [hw]
  clear hw hh
  go_wp2_with fail
  refine wp_region_grow (by kernel_rfl) (by kernel_rfl) ?_
  repeat (go_big_quiet_step ((go_at_call 31 <;> exact HLD.out _ (Grows.refl _) _)))
  refine wpQuiet_nil ?_
  intro _ hw'
  obtain ⟨g1, rfl⟩ := hw'
  obtain ⟨w1, hw1⟩ : ∃ w1, w1 = w.grow g1 := ⟨_, rfl⟩
  have G1 : Hid (Grows w w1) := by show Grows _ _; rw [hw1]; exact Grows.of w g1
  rw [← hw1]
  clear hw1 c0 c1 c2 c3 l1
  have H1 := Lib.hid (HH.out.grows G1.out)
  obtain ⟨c0, c1, c2, c3⟩ := H1.out.cells
  have l1 := H1.out.hd.lt
  go_wp2_with fail
  refine wp_region_grow (by kernel_rfl) (by kernel_rfl) ?_
  repeat (go_big_quiet_step ((go_at_call 31 <;> exact HLD8.out _ G1.out _)))
  refine wpQuiet_nil ?_
  intro _ hw'
  obtain ⟨g2, rfl⟩ := hw'
  obtain ⟨w2, hw2⟩ : ∃ w2, w2 = w1.grow g2 := ⟨_, rfl⟩
  have HG : Hid (Grows w w2) := by show Grows _ _; rw [hw2]; exact G1.out.trans (Grows.of w1 g2)
  rw [← hw2]
  clear hw2 G1 H1 HLD HLD8 c0 c1 c2 c3 l1
  have H2 := Lib.hid (HH.out.grows HG.out)
  obtain ⟨c0, c1, c2, c3⟩ := H2.out.cells
  have cs := H2.out.st.cell hi
  have ct := H2.out.tk.cell hi
  have fs := H2.out.st.frozen i
  have ft := H2.out.tk.frozen i
  rw [HS.out] at cs
  have nrq := H2.out.ne.1
  have nqr : qs ≠ rl := fun h => nrq h.symm
  have lq := H2.out.st.lt
  go_wp2_with fail
  obtain ⟨w3, hw3⟩ : ∃ w3, w3 = w2.setCell ⟨qt, i, none⟩ (.int .u64 nx) := ⟨_, rfl⟩
  have H3 : Hid (RReady w3 rl rp rq N A qs qt n B S (updN T i nx)) := by show RReady _ _ _ _ _ _ _ _ _ _ _ _; rw [hw3]; exact H2.out.setT hi nx
  have HC3 : Hid (Chg [qs, qt, rq] w w3) := by show Chg _ _ _; rw [hw3]; exact (Chg.of_grows HG.out).setCell (Or.inl (by simp)) _ _
  rw [← hw3]
  clear hw3 c0 c1 c2 c3 cs ct fs ft
  go_region_held3 (fun w' => w'.cell? ⟨rl, 0, none⟩ = some (.pointer (some ⟨rp, 0, none⟩)) ∧ w'.cell? ⟨rl, 1, none⟩ = some (.int .u64 A)) (first
    | exact ⟨H4.out.cells.1, H4.out.cells.2.1⟩
    | exact ⟨H3.out.cells.1, H3.out.cells.2.1⟩)
    (first
    | (go_at_call 21; rw [E1.out]; refine (rStore_ok (H3.out.grows ((Grows.refl _).drew)).m A 8 (inc64 nx) rfl H3.out.a8 (by omega)).mono ?_; rintro _ w4 ⟨rfl, hM4, hC4⟩
       have H4 := Lib.hid ((H3.out.grows ((Grows.refl _).drew)).mem hM4 hC4)
       have HC4 := Lib.hid (HC3.out.trans ((Chg.of_grows ((Grows.refl _).drew)).trans (hC4.weaken (by simp))))
       clear hM4 hC4))
  obtain ⟨c0, c1, c2, c3⟩ := H4.out.cells
  have cs := H4.out.st.cell hi
  have fs := H4.out.st.frozen i
  have ls := H4.out.st.lt
  go_wp2_with fail
  go_ret2
  exact ⟨rfl, H4.out.setS hi 2, HC4.out.setCell (Or.inl (by simp)) _ _⟩
set_option maxRecDepth 100000 in
theorem rstep_4 {w : World} {rl rp rq N A qs qt n i nx nw : Nat} {B S T : Nat → Nat} (h : RReady w rl rp rq N A qs qt n B S T) (hi : i < n) (hs : S i = 4) (hnx : numB B A = nx) (hnw : numB B (A + 8) = nw) :
    Calls Tryd.prog 19 #[.pointer (some ⟨rl, 0, none⟩), .int .i64 i] w fun r w' => r = .returned (.tuple #[.int .i64 0, .int .i64 0]) ∧ RReady w' rl rp rq N A qs qt n (incB B (A + 8)) (updN S i 0) T ∧ Chg [qs, qt, rq] w w' := by
  have E1 := Lib.hid (inc64_wrap nw)
  have HI : Hid (incB B (A + 8) = putB B (A + 8) (leB (inc64 nw) 8)) := by show _ = _; unfold incB; rw [hnw]
  rw [HI.out]
  have hh := Has_yes h hi
  obtain ⟨c0, c1, c2, c3⟩ := h.cells
  have l1 := h.hd.lt
  have hN := h.m.hn
  have haN := h.aN
  have hn8 := h.n8
  have e8 : IntKind.u64.wrap ((A : Int) + 8) = (A : Int) + 8 := wrap_u64_small (by omega) (by omega)
  have HLD : Hid (∀ w', Grows w w' → ∀ g, Calls Tryd.prog 31 #[.pointer (some ⟨rp, 0, none⟩), .int .u64 A, .int .i64 8] (w'.grow g) fun r w2 => r = .returned (.tuple #[.int .u64 (numB B A : Nat), .int .i64 0]) ∧ ∃ h, w2 = w'.grow h) :=
    fun w' hg g => rLoad_num (h.m.grows hg) A _ h.a8 (by omega) rfl g
  have HLD8 : Hid (∀ w', Grows w w' → ∀ g, Calls Tryd.prog 31 #[.pointer (some ⟨rp, 0, none⟩), .int .u64 ((A : Int) + 8), .int .i64 8] (w'.grow g) fun r w2 => r = .returned (.tuple #[.int .u64 (numB B (A + 8) : Nat), .int .i64 0]) ∧ ∃ h, w2 = w'.grow h) :=
    fun w' hg g => by
      rw [show (A : Int) + 8 = ((A + 8 : Nat) : Int) by omega]
      exact rLoad_num (h.m.grows hg) (A + 8) _ (by have := h.a8; omega) (by omega) rfl g
  have HB : Hid (numB B A = nx ∧ numB B (A + 8) = nw) := Lib.hid ⟨hnx, hnw⟩
  rw [hnx] at HLD
  rw [hnw] at HLD8
  clear hnx hnw
  have HH := Lib.hid h
  have HS := Lib.hid hs
  clear h hs
  go_enter Tryd.func19, Tryd.ntmps19
  go_wp2_with fail
  refine hh.mono ?_
  rintro _ _ ⟨rfl, hw⟩
  rw [hw]
  clear hw hh
  go_wp2_with fail
  refine wp_region_grow (by kernel_rfl) (by kernel_rfl) ?_
  repeat (go_big_quiet_step ((go_at_call 31 <;> exact HLD.out _ (Grows.refl _) _)))
  refine wpQuiet_nil ?_
  intro _ hw'
  obtain ⟨g1, rfl⟩ := hw'
  obtain ⟨w1, hw1⟩ : ∃ w1, w1 = w.grow g1 := ⟨_, rfl⟩
  have G1 : Hid (Grows w w1) := by show Grows _ _; rw [hw1]; exact Grows.of w g1
  rw [← hw1]
  clear hw1 c0 c1 c2 c3 l1
  have H1 := Lib.hid (HH.out.grows G1.out)
  obtain ⟨c0, c1, c2, c3⟩ := H1.out.cells
  have l1 := H1.out.hd.lt
  go_wp2_with fail
  refine wp_region_grow (by kernel_rfl) (by kernel_rfl) ?_
  repeat (go_big_quiet_step ((go_at_call 31 <;> exact HLD8.out _ G1.out _)))
  refine wpQuiet_nil ?_
  intro _ hw'
  obtain ⟨g2, rfl⟩ := hw'
  obtain ⟨w2, hw2⟩ : ∃ w2, w2 = w1.grow g2 := ⟨_, rfl⟩
  have HG : Hid (Grows w w2) := by show Grows _ _; rw [hw2]; exact G1.out.trans (Grows.of w1 g2)
  rw [← hw2]
  clear hw2 G1 H1 HLD HLD8 c0 c1 c2 c3 l1
  have H2 := Lib.hid (HH.out.grows HG.out)
  obtain ⟨c0, c1, c2, c3⟩ := H2.out.cells
  have cs := H2.out.st.cell hi
  have ct := H2.out.tk.cell hi
  have fs := H2.out.st.frozen i
  have ft := H2.out.tk.frozen i
  rw [HS.out] at cs
  have nrq := H2.out.ne.1
  have nqr : qs ≠ rl := fun h => nrq h.symm
  have lq := H2.out.st.lt
  clear fs ft ct
  go_wp2_with fail
  have E8 : Hid ((A : Int) + 8 = ((A + 8 : Nat) : Int)) := by show _ = _; omega
  go_region_held3 (fun w' => w'.cell? ⟨rl, 0, none⟩ = some (.pointer (some ⟨rp, 0, none⟩)) ∧ w'.cell? ⟨rl, 1, none⟩ = some (.int .u64 A)) (first
    | exact ⟨H4.out.cells.1, H4.out.cells.2.1⟩
    | exact ⟨H2.out.cells.1, H2.out.cells.2.1⟩)
    (first
    | (go_at_call 21; rw [E1.out, E8.out]; refine (rStore_ok (H2.out.grows ((Grows.refl _).drew)).m (A + 8) 8 (inc64 nw) rfl (by have := H2.out.a8; omega) (by omega)).mono ?_; rintro _ w4 ⟨rfl, hM4, hC4⟩
       have H4 := Lib.hid ((H2.out.grows ((Grows.refl _).drew)).mem hM4 hC4)
       have HC4 := Lib.hid ((Chg.of_grows (S := [qs, qt, rq]) (HG.out.drew)).trans (hC4.weaken (by simp)))
       clear hM4 hC4))
  clear c0 c1 c2 c3 cs
  obtain ⟨c0, c1, c2, c3⟩ := H4.out.cells
  have cs := H4.out.st.cell hi
  have fs := H4.out.st.frozen i
  have ls := H4.out.st.lt
  go_wp2_with fail
  go_ret2
  exact ⟨rfl, H4.out.setS hi 0, HC4.out.setCell (Or.inl (by simp)) _ _⟩
end Go.Proofs.YtbiadhgkpggdeaaDoor
