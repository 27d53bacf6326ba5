/- VcpuPlays: both at once; the law's own function enters. -/
import Derived.Test.YtilefidnjjbboaaVcpuP
namespace Go.Proofs.Ytilefidnjjbboaa
open Go Go.RowKit
set_option linter.unusedSimpArgs false
set_option linter.unusedVariables false
def upd {α : Type} (f : Nat → α) (k : Nat) (x : α) : Nat → α := fun j => if j = k then x else f j
theorem upd_same {α : Type} (f : Nat → α) (k : Nat) (x : α) : upd f k x k = x := if_pos rfl
theorem upd_ne {α : Type} (f : Nat → α) {k j : Nat} (x : α) (h : j ≠ k) : upd f k x j = f j := if_neg h
structure PlayAt (w : World) (pm me : Nat) (cb v f r : Nat → Nat) (bu : Nat) (g : Nat → Int) (ix : Int) (st : Nat → Option (List Value)) (s co : Nat → Int) (R : Nat → List Value) (rf : Nat → Nat → Int) (u : Nat → Int) : Prop where
  mach : MachAt w pm me 2 2 cb st
  vc : ∀ k, k < 2 → VcAt w (v k) (f k) (g k) ix (s k) (co k) (R k) (rf k)
  rv : ∀ k, k < 2 → RfAt w (r k) (g k) ix (s k) (co k) (R k)
  us : Row w bu #[.int .i64 (u 0), .int .i64 (u 1)] 40
  run : ∀ k, k < 2 → (s k = 2 ∧ ∃ c : Nat, c < 2 ∧ co k = c ∧ st c = some (cxL (g k) (R k) (f k) 0) ∧ u c = 1 + k) ∨ (s k ≠ 2 ∧ co k = -1)
  free : ∀ c, c < 2 → (u c ≠ 0 ∧ ∃ cx, st c = some cx ∧ CxOk cx) ∨ (u c = 0 ∧ st c = none)
  nv : ∀ j k, j < 2 → k < 2 → j ≠ k → v j ≠ v k ∧ f j ≠ f k ∧ r j ≠ r k
  gp : ∀ k, k < 2 → 0 ≤ g k
section
variable {w w' : World} {pm me bu : Nat} {cb v f r : Nat → Nat} {g : Nat → Int} {ix : Int} {st : Nat → Option (List Value)} {s co : Nat → Int} {R : Nat → List Value} {rf : Nat → Nat → Int} {u : Nat → Int}
theorem PlayAt.grows (h : PlayAt w pm me cb v f r bu g ix st s co R rf u) (hg : Grows w w') : PlayAt w' pm me cb v f r bu g ix st s co R rf u :=
  ⟨h.mach.grows hg, fun k hk => (h.vc k hk).grows hg, fun k hk => (h.rv k hk).grows hg, h.us.grows hg, h.run, h.free, h.nv, h.gp⟩
theorem PlayAt.next (h : PlayAt w pm me cb v f r bu g ix st s co R rf u) {k c : Nat} (hk : k < 2) (hcc : c < 2) (hc : Chg [v k, r k, bu, cb c, f k] w w') {st' : Nat → Option (List Value)} {s' co' : Int} {R' : List Value} {rf' u' : Nat → Int}
    (hM : MachAt w' pm me 2 2 cb st') (hv : VcAt w' (v k) (f k) (g k) ix s' co' R' rf') (hr : RfAt w' (r k) (g k) ix s' co' R') (hu : Row w' bu #[.int .i64 (u' 0), .int .i64 (u' 1)] 40)
    (hrun : (s' = 2 ∧ ∃ c : Nat, c < 2 ∧ co' = c ∧ st' c = some (cxL (g k) R' (f k) 0) ∧ u' c = 1 + k) ∨ (s' ≠ 2 ∧ co' = -1))
    (hoth : ∀ j, j < 2 → j ≠ k → ∀ c', c' < 2 → u c' = 1 + j → st' c' = st c' ∧ u' c' = u c')
    (hfree : ∀ c, c < 2 → (u' c ≠ 0 ∧ ∃ cx, st' c = some cx ∧ CxOk cx) ∨ (u' c = 0 ∧ st' c = none)) :
    PlayAt w' pm me cb v f r bu g ix st' (upd s k s') (upd co k co') (upd R k R') (upd rf k rf') u' := by
  have hcr : ∃ cc, Row w (cb c) cc 88 := by obtain ⟨_, _, _, _, hr⟩ := h.mach.cores c hcc; exact ⟨_, hr⟩
  obtain ⟨cc, hcr⟩ := hcr
  refine ⟨hM, fun j hj => ?_, fun j hj => ?_, hu, fun j hj => ?_, hfree, h.nv, h.gp⟩
  · by_cases e : j = k
    · subst e; simp only [upd_same]; exact hv
    · simp only [upd_ne _ _ e]
      have hvj := h.vc j hj
      have hfj : Row w (f j) (fileA (rf j)) 110 := hvj.file
      have hfk : Row w (f k) (fileA (rf k)) 110 := (h.vc k hk).file
      have hn := h.nv j k hj hk e
      refine hvj.chg hc ⟨?_, ?_⟩
      · simp only [List.mem_cons, List.not_mem_nil, or_false, not_or]
        exact ⟨hn.1, fun e => by have h2 := (h.rv k hk).row; rw [← e] at h2; exact absurd (row_type hvj.row h2) (by decide), fun e => by have h2 := h.us; rw [← e] at h2; exact absurd (row_type hvj.row h2) (by decide), fun e => by rw [← e] at hcr; exact absurd (row_type hvj.row hcr) (by decide), fun e => by rw [← e] at hfk; exact absurd (row_type hvj.row hfk) (by decide)⟩
      · simp only [List.mem_cons, List.not_mem_nil, or_false, not_or]
        exact ⟨fun e => by have h2 := (h.vc k hk).row; rw [← e] at h2; exact absurd (row_type hfj h2) (by decide), fun e => by have h2 := (h.rv k hk).row; rw [← e] at h2; exact absurd (row_type hfj h2) (by decide), fun e => by have h2 := h.us; rw [← e] at h2; exact absurd (row_type hfj h2) (by decide), fun e => by rw [← e] at hcr; exact absurd (row_type hfj hcr) (by decide), hn.2.1⟩
  · by_cases e : j = k
    · subst e; simp only [upd_same]; exact hr
    · simp only [upd_ne _ _ e]
      have hrj := h.rv j hj
      have hfk : Row w (f k) (fileA (rf k)) 110 := (h.vc k hk).file
      have hn := h.nv j k hj hk e
      refine hrj.chg hc ?_
      simp only [List.mem_cons, List.not_mem_nil, or_false, not_or]
      exact ⟨fun e => by have h2 := (h.vc k hk).row; rw [← e] at h2; exact absurd (row_type hrj.row h2) (by decide), hn.2.2, fun e => by have h2 := h.us; rw [← e] at h2; exact absurd (row_type hrj.row h2) (by decide), fun e => by rw [← e] at hcr; exact absurd (row_type hrj.row hcr) (by decide), fun e => by rw [← e] at hfk; exact absurd (row_type hrj.row hfk) (by decide)⟩
  · by_cases e : j = k
    · subst e; simp only [upd_same]; exact hrun
    · simp only [upd_ne _ _ e]
      rcases h.run j hj with ⟨h1, c', hc', h2, h3, h4⟩ | h1
      · obtain ⟨e1, e2⟩ := hoth j hj e c' hc' h4
        exact Or.inl ⟨h1, c', hc', h2, by rw [e1]; exact h3, by rw [e2]; exact h4⟩
      · exact Or.inr h1
/-- A machine under a change of what is no part of it. -/
theorem PlayAt.mach' (h : PlayAt w pm me cb v f r bu g ix st s co R rf u) {k : Nat} (hk : k < 2) (hc : Chg [v k, r k, bu, f k] w w') : MachAt w' pm me 2 2 cb st := by
  obtain ⟨_, _, _, hm, _⟩ := h.mach.hd
  obtain ⟨_, hq⟩ := h.mach.mem
  have hV := (h.vc k hk).row
  have hR := (h.rv k hk).row
  have hU := h.us
  have hF : Row w (f k) (fileA (rf k)) 110 := (h.vc k hk).file
  refine h.mach.chg hc ⟨?_, ?_, fun i hi => ?_⟩ (fun b hb => ?_)
  · simp only [List.mem_cons, List.not_mem_nil, or_false, not_or]
    exact ⟨fun e => by rw [← e] at hV; exact absurd (row_type hm hV) (by decide), fun e => by rw [← e] at hR; exact absurd (row_type hm hR) (by decide), fun e => by rw [← e] at hU; exact absurd (row_type hm hU) (by decide), fun e => by rw [← e] at hF; exact absurd (row_type hm hF) (by decide)⟩
  · simp only [List.mem_cons, List.not_mem_nil, or_false, not_or]
    exact ⟨fun e => by rw [← e] at hV; exact absurd (row_type hq hV) (by decide), fun e => by rw [← e] at hR; exact absurd (row_type hq hR) (by decide), fun e => by rw [← e] at hU; exact absurd (row_type hq hU) (by decide), fun e => by rw [← e] at hF; exact absurd (row_type hq hF) (by decide)⟩
  · obtain ⟨_, _, _, _, hri⟩ := h.mach.cores i hi
    simp only [List.mem_cons, List.not_mem_nil, or_false, not_or]
    exact ⟨fun e => by rw [← e] at hV; exact absurd (row_type hri hV) (by decide), fun e => by rw [← e] at hR; exact absurd (row_type hri hR) (by decide), fun e => by rw [← e] at hU; exact absurd (row_type hri hU) (by decide), fun e => by rw [← e] at hF; exact absurd (row_type hri hF) (by decide)⟩
  · simp only [List.mem_cons, List.not_mem_nil, or_false] at hb
    rcases hb with rfl | rfl | rfl | rfl
    · exact ⟨_, _, hV, by decide⟩
    · exact ⟨_, _, hR, by decide⟩
    · exact ⟨_, _, hU, by decide⟩
    · exact ⟨_, _, hF, by decide⟩
theorem PlayAt.apart (h : PlayAt w pm me cb v f r bu g ix st s co R rf u) {k : Nat} (hk : k < 2) : r k ≠ v k ∧ r k ≠ f k ∧ r k ≠ bu ∧ bu ≠ v k ∧ bu ≠ f k ∧ v k ≠ f k ∧ ∀ c, c < 2 → cb c ≠ v k ∧ cb c ≠ f k ∧ cb c ≠ r k ∧ cb c ≠ bu := by
  have hV := (h.vc k hk).row
  have hR := (h.rv k hk).row
  have hU := h.us
  have hF : Row w (f k) (fileA (rf k)) 110 := (h.vc k hk).file
  refine ⟨fun e => ?_, fun e => ?_, fun e => ?_, fun e => ?_, fun e => ?_, vf_ne (h.vc k hk), fun c hc => ?_⟩
  · rw [← e] at hV; exact absurd (row_type hR hV) (by decide)
  · rw [← e] at hF; exact absurd (row_type hR hF) (by decide)
  · rw [← e] at hU; exact absurd (row_type hR hU) (by decide)
  · rw [← e] at hV; exact absurd (row_type hU hV) (by decide)
  · rw [← e] at hF; exact absurd (row_type hU hF) (by decide)
  · obtain ⟨_, _, _, _, hri⟩ := h.mach.cores c hc
    exact ⟨fun e => by rw [← e] at hV; exact absurd (row_type hri hV) (by decide), fun e => by rw [← e] at hF; exact absurd (row_type hri hF) (by decide), fun e => by rw [← e] at hR; exact absurd (row_type hri hR) (by decide), fun e => by rw [← e] at hU; exact absurd (row_type hri hU) (by decide)⟩
/-- What enters leaves. -/
def EntersP (w w' : World) (pm me : Nat) (cb v f r : Nat → Nat) (bu : Nat) (g : Nat → Int) (ix : Int) (st : Nat → Option (List Value)) (s co : Nat → Int) (R : Nat → List Value) (rf : Nat → Nat → Int) (u : Nat → Int) (k : Nat) (e : Ending) : Prop :=
  e = .returned (.bool true) ∧ (Grows w w' ∨ ∃ c : Nat, c < 2 ∧ s k = 1 ∧ u c = 0 ∧ st c = none ∧ MachAt w' pm me 2 2 cb (fun i => if i = c then some (cxL (g k) (R k) (f k) 0) else st i) ∧ VcAt w' (v k) (f k) (g k) ix 2 c (R k) (rf k) ∧ RfAt w' (r k) (g k) ix 2 c (R k) ∧ Chg [v k, r k, cb c] w w')
set_option maxRecDepth 100000 in
set_option maxHeartbeats 4000000 in
theorem enters_any (h : PlayAt w pm me cb v f r bu g ix st s co R rf u) {k : Nat} (hk : k < 2) (core : Int) :
    Calls Try.prog 18 #[.pointer (some ⟨pm, 0, none⟩), .pointer (some ⟨v k, 0, none⟩), .pointer (some ⟨r k, 0, none⟩), .int .i64 core, .agg #[.int .i64 (u 0), .int .i64 (u 1)]] w fun e w' => EntersP w w' pm me cb v f r bu g ix st s co R rf u k e := by
  by_cases hs : s k = 1
  · by_cases hco : core < 0 ∨ 1 < core
    · go_enter Try.func18, Try.ntmps18
      go_wp2_with fail
      obtain ⟨W1, hW1⟩ : ∃ W1, W1 = w.alloc (Obj.cells #[.int .i64 (u 0), .int .i64 (u 1)] 40) := ⟨_, rfl⟩
      obtain ⟨b9, hb9⟩ : ∃ b, b = w.heap.size := ⟨_, rfl⟩
      rw [← hW1, ← hb9]
      have hg1 : Grows w W1 := by rw [hW1]; exact (Grows.refl _).alloc _
      have hr9 : Row W1 b9 #[.int .i64 (u 0), .int .i64 (u 1)] 40 := by rw [hW1]; exact Row.new_at _ _ _ hb9
      have h1 := h.grows hg1
      have HR9 := Lib.hid hr9
      have HG1 := Lib.hid hg1
      have HB9 := Lib.hid (show v k ≠ b9 ∧ r k ≠ b9 ∧ ∀ c, c < 2 → cb c ≠ b9 by
        have a1 := (h.vc k hk).row.lt
        have a2 := (h.rv k hk).row.lt
        exact ⟨by omega, by omega, fun c hc => by have := (h.mach.cores c hc).lt; omega⟩)
      clear hW1 hb9 hg1 hr9 h
      have H1 := Lib.hid h1
      have hen := enter_bad (c := core) (rt := 0) (bad := 2) h1.mach (by omega) (by omega) (by have := h1.vc k hk; rwa [hs] at this) (by omega) (fun W hg => put_arg (h1.mach.grows hg) (by omega) (by omega) (by omega) _)
      clear h1
      refine hen.mono ?_
      rintro _ w2 ⟨rfl, hg2⟩
      obtain ⟨c0, c1, c2, c3⟩ := ((H1.out.grows hg2).rv k hk).cells
      rw [hs] at c2
      have HG2 := Lib.hid (HG1.out.trans hg2)
      clear hen hg2 H1 c0 c1 c3
      by_cases h0 : core < 0
      · have d1 : decide (core < 0) = true := decide_eq_true h0
        clear hco h0
        go_wp2_with fail
        go_ret
        exact ⟨rfl, Or.inl HG2.out⟩
      · have d1 : decide (core < 0) = false := decide_eq_false h0
        have d2 : decide (1 < core) = true := decide_eq_true (by omega)
        clear hco h0
        go_wp2_with fail
        go_ret
        exact ⟨rfl, Or.inl HG2.out⟩
    · obtain ⟨c, rfl, hc⟩ : ∃ c : Nat, core = c ∧ c < 2 := ⟨core.toNat, by omega, by omega⟩
      have d1 : decide ((c : Int) < 0) = false := decide_eq_false (by omega)
      have d2 : decide (1 < (c : Int)) = false := decide_eq_false (by omega)
      have i0 : (c : Int) < 2 := by omega
      clear hco
      rcases h.free c hc with ⟨hu, cx, hst, hcx⟩ | ⟨hu, hst⟩
      · go_enter Try.func18, Try.ntmps18
        go_wp2_with fail
        obtain ⟨W1, hW1⟩ : ∃ W1, W1 = w.alloc (Obj.cells #[.int .i64 (u 0), .int .i64 (u 1)] 40) := ⟨_, rfl⟩
        obtain ⟨b9, hb9⟩ : ∃ b, b = w.heap.size := ⟨_, rfl⟩
        rw [← hW1, ← hb9]
        have hg1 : Grows w W1 := by rw [hW1]; exact (Grows.refl _).alloc _
        have hr9 : Row W1 b9 #[.int .i64 (u 0), .int .i64 (u 1)] 40 := by rw [hW1]; exact Row.new_at _ _ _ hb9
        have h1 := h.grows hg1
        have HR9 := Lib.hid hr9
        have HG1 := Lib.hid hg1
        have HB9 := Lib.hid (show v k ≠ b9 ∧ r k ≠ b9 ∧ ∀ c, c < 2 → cb c ≠ b9 by
          have a1 := (h.vc k hk).row.lt
          have a2 := (h.rv k hk).row.lt
          exact ⟨by omega, by omega, fun c hc => by have := (h.mach.cores c hc).lt; omega⟩)
        clear hW1 hb9 hg1 hr9 h
        have H1 := Lib.hid h1
        have hen := enter_bad (c := c) (rt := 0) (bad := 13) h1.mach (by omega) (by omega) (by have := h1.vc k hk; rwa [hs] at this) (by omega) (fun W hg => put_there (h1.mach.grows hg) (by omega) (by omega) hc hst hcx (h1.vc k hk).reg ((h1.vc k hk).grows hg).file (h1.gp k hk) (by omega) (by omega))
        clear h1
        refine hen.mono ?_
        rintro _ w2 ⟨rfl, hg2⟩
        obtain ⟨c0, c1, c2, c3⟩ := ((H1.out.grows hg2).rv k hk).cells
        rw [hs] at c2
        have hr9 := HR9.out.grows hg2
        have cu : w2.cell? ⟨b9, c, none⟩ = some (.int .i64 (u c)) := by
          rw [hr9.cell]
          rcases (show c = 0 ∨ c = 1 by omega) with rfl | rfl <;> rfl
        have hd : (u c != 0) = true := by simp [hu]
        have HG2 := Lib.hid (HG1.out.trans hg2)
        clear hen hg2 H1 c0 c1 c3 hr9 HR9 hst hcx hu
        generalize u c = uc at *
        go_wp2_with fail
        go_ret
        exact ⟨rfl, Or.inl HG2.out⟩
      · go_enter Try.func18, Try.ntmps18
        go_wp2_with fail
        obtain ⟨W1, hW1⟩ : ∃ W1, W1 = w.alloc (Obj.cells #[.int .i64 (u 0), .int .i64 (u 1)] 40) := ⟨_, rfl⟩
        obtain ⟨b9, hb9⟩ : ∃ b, b = w.heap.size := ⟨_, rfl⟩
        rw [← hW1, ← hb9]
        have hg1 : Grows w W1 := by rw [hW1]; exact (Grows.refl _).alloc _
        have hr9 : Row W1 b9 #[.int .i64 (u 0), .int .i64 (u 1)] 40 := by rw [hW1]; exact Row.new_at _ _ _ hb9
        have h1 := h.grows hg1
        have HR9 := Lib.hid hr9
        have HG1 := Lib.hid hg1
        have HB9 := Lib.hid (show v k ≠ b9 ∧ r k ≠ b9 ∧ ∀ c, c < 2 → cb c ≠ b9 by
          have a1 := (h.vc k hk).row.lt
          have a2 := (h.rv k hk).row.lt
          exact ⟨by omega, by omega, fun c hc => by have := (h.mach.cores c hc).lt; omega⟩)
        clear hW1 hb9 hg1 hr9 h
        have H1 := Lib.hid h1
        have hen := enter_ok (c := c) (rt := 0) h1.mach (by omega) (by omega) (by omega) hc hst (by have := h1.vc k hk; rwa [hs] at this) (h1.gp k hk) (by omega) (by omega)
        clear h1
        refine hen.mono ?_
        rintro _ w2 ⟨rfl, hM2, hV2, hC2⟩
        have hap := H1.out.apart hk
        have hR2 := (H1.out.rv k hk).chg hC2 (by simp; exact ⟨fun e => (hap.2.2.2.2.2.2 c hc).2.2.1 e.symm, hap.1⟩)
        rw [hs] at hR2
        obtain ⟨c0, c1, c2, c3⟩ := hR2.cells
        have f2 := hR2.row.frozen 2
        have f3 := hR2.row.frozen 3
        have hr9 := HR9.out.chg hC2 (by have := HB9.out; simp; exact ⟨fun e => this.2.2 c hc e.symm, fun e => this.1 e.symm⟩)
        have cu : w2.cell? ⟨b9, c, none⟩ = some (.int .i64 0) := by
          rw [hr9.cell, ← hu]
          rcases (show c = 0 ∨ c = 1 by omega) with rfl | rfl <;> rfl
        have hR3 := (hR2.set2 2).set3 c
        have hc3 : Chg [r k] w2 ((w2.setCell ⟨r k, 2, none⟩ (.int .i64 2)).setCell ⟨r k, 3, none⟩ (.int .i64 c)) := ((Chg.refl _ _).setCell (Or.inl (by simp)) _ _).setCell (Or.inl (by simp)) _ _
        have hV3 := hV2.chg hc3 (by simp; exact ⟨fun e => hap.1 e.symm, fun e => hap.2.1 e.symm⟩)
        have hM3 : MachAt _ pm me 2 2 cb _ := hM2.chg hc3 (by
          obtain ⟨_, _, _, hm, _⟩ := hM2.hd
          obtain ⟨_, hq⟩ := hM2.mem
          have hR := hR2.row
          simp only [List.mem_cons, List.not_mem_nil, or_false]
          exact ⟨fun e => by rw [← e] at hR; exact absurd (row_type hm hR) (by decide), fun e => by rw [← e] at hR; exact absurd (row_type hq hR) (by decide), fun i hi => (hap.2.2.2.2.2.2 i hi).2.2.1⟩) (fun b hb => by simp at hb; subst hb; exact ⟨_, _, hR2.row, by decide⟩)
        have HM3 := Lib.hid hM3
        have HV3 := Lib.hid hV3
        have HR3 := Lib.hid hR3
        have HC3 := Lib.hid (((Chg.of_grows HG1.out).trans (hC2.weaken (T := [v k, r k, cb c]) (by simp))).trans (hc3.weaken (T := [v k, r k, cb c]) (by simp)))
        have HS := Lib.hid hs
        have HU := Lib.hid hu
        have HST := Lib.hid hst
        clear hen hM2 hV2 hC2 hap hR2 c0 c1 hr9 HR9 hR3 hc3 hV3 hM3 H1 hs hu hst HB9
        go_wp2_with fail
        go_ret
        exact ⟨rfl, Or.inr ⟨c, hc, HS.out, HU.out, HST.out, HM3.out, HV3.out, HR3.out, HC3.out⟩⟩
  · go_enter Try.func18, Try.ntmps18
    go_wp2_with fail
    obtain ⟨W1, hW1⟩ : ∃ W1, W1 = w.alloc (Obj.cells #[.int .i64 (u 0), .int .i64 (u 1)] 40) := ⟨_, rfl⟩
    obtain ⟨b9, hb9⟩ : ∃ b, b = w.heap.size := ⟨_, rfl⟩
    rw [← hW1, ← hb9]
    have hg1 : Grows w W1 := by rw [hW1]; exact (Grows.refl _).alloc _
    have hr9 : Row W1 b9 #[.int .i64 (u 0), .int .i64 (u 1)] 40 := by rw [hW1]; exact Row.new_at _ _ _ hb9
    have h1 := h.grows hg1
    have HR9 := Lib.hid hr9
    have HG1 := Lib.hid hg1
    have HB9 := Lib.hid (show v k ≠ b9 ∧ r k ≠ b9 ∧ ∀ c, c < 2 → cb c ≠ b9 by
      have a1 := (h.vc k hk).row.lt
      have a2 := (h.rv k hk).row.lt
      exact ⟨by omega, by omega, fun c hc => by have := (h.mach.cores c hc).lt; omega⟩)
    clear hW1 hb9 hg1 hr9 h
    have H1 := Lib.hid h1
    have hen := enter_state core 0 h1.mach (by omega) (by omega) (h1.vc k hk) hs
    obtain ⟨c0, c1, c2, c3⟩ := (h1.rv k hk).cells
    have hd : (s k != 1) = true := by simp [hs]
    clear h1
    refine hen.mono ?_
    rintro _ w2 ⟨rfl, hw⟩
    rw [hw]
    clear hen hw H1 c0 c1 c3 hs
    generalize s k = sk at *
    go_wp2_with fail
    go_ret
    exact ⟨rfl, Or.inl HG1.out⟩
end
end Go.Proofs.Ytilefidnjjbboaa
