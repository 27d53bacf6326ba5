/- VcpuPlays: what each act leaves. -/
import Derived.Test.YtilefidnjjbboaaVcpuQ
import Derived.Test.YtilefidnjjbboaaSlice2
namespace Go.Proofs.Ytilefidnjjbboaa
open Go Go.RowKit
set_option linter.unusedSimpArgs false
set_option linter.unusedVariables false
/-- The two slices. -/
def Sl (w : World) (v r : Nat → Nat) (b16 b17 : Nat) : Prop :=
  Row w b16 #[.pointer (some ⟨v 0, 0, none⟩), .pointer (some ⟨v 1, 0, none⟩)] 26 ∧ Row w b17 #[.pointer (some ⟨r 0, 0, none⟩), .pointer (some ⟨r 1, 0, none⟩)] 34
theorem Sl.grows {w w' : World} {v r : Nat → Nat} {b16 b17 : Nat} (h : Sl w v r b16 b17) (hg : Grows w w') : Sl w' v r b16 b17 := ⟨h.1.grows hg, h.2.grows hg⟩
theorem Sl.at {w : World} {v r : Nat → Nat} {b16 b17 k : Nat} (h : Sl w v r b16 b17) (hk : k < 2) : w.cell? ⟨b16, k, none⟩ = some (.pointer (some ⟨v k, 0, none⟩)) ∧ w.cell? ⟨b17, k, none⟩ = some (.pointer (some ⟨r k, 0, none⟩)) := by
  rcases (show k = 0 ∨ k = 1 by omega) with rfl | rfl
  · exact ⟨by rw [h.1.cell]; rfl, by rw [h.2.cell]; rfl⟩
  · exact ⟨by rw [h.1.cell]; rfl, by rw [h.2.cell]; rfl⟩
theorem upd_self {α : Type} (f : Nat → α) (k : Nat) : upd f k (f k) = f := by
  funext j; unfold upd; split
  · rename_i h; rw [h]
  · rfl
section
variable {w w' : World} {pm me bu : Nat} {cb v f r : Nat → Nat} {g : Nat → Int} {ix : Int} {st : Nat → Option (List Value)} {s co : Nat → Int} {R : Nat → List Value} {rf : Nat → Nat → Int} {u : Nat → Int}
/-- What no act turns. -/
theorem PlayAt.keep (h : PlayAt w pm me cb v f r bu g ix st s co R rf u) {k : Nat} (hk : k < 2) (hc : Chg [v k, r k, bu, cb 0, cb 1, f k] w w') {b : Nat} {C : Array Value} {t : TypeId} (hr : Row w b C t) (ht : t ≠ 68 ∧ t ≠ 50 ∧ t ≠ 40 ∧ t ≠ 88 ∧ t ≠ 110) : Row w' b C t := by
  have hV := (h.vc k hk).row
  have hR := (h.rv k hk).row
  have hU := h.us
  have hF : Row w (f k) (fileA (rf k)) 110 := (h.vc k hk).file
  obtain ⟨_, _, _, _, hc0⟩ := h.mach.cores 0 (by omega)
  obtain ⟨_, _, _, _, hc1⟩ := h.mach.cores 1 (by omega)
  refine hr.chg hc ?_
  simp only [List.mem_cons, List.not_mem_nil, or_false, not_or]
  exact ⟨fun e => by rw [← e] at hV; exact ht.1 (row_type hr hV), fun e => by rw [← e] at hR; exact ht.2.1 (row_type hr hR), fun e => by rw [← e] at hU; exact ht.2.2.1 (row_type hr hU), fun e => by rw [← e] at hc0; exact ht.2.2.2.1 (row_type hr hc0), fun e => by rw [← e] at hc1; exact ht.2.2.2.1 (row_type hr hc1), fun e => by rw [← e] at hF; exact ht.2.2.2.2 (row_type hr hF)⟩
theorem PlayAt.sl (h : PlayAt w pm me cb v f r bu g ix st s co R rf u) {k b16 b17 : Nat} (hk : k < 2) (hc : Chg [v k, r k, bu, cb 0, cb 1, f k] w w') (hs : Sl w v r b16 b17) : Sl w' v r b16 b17 :=
  ⟨h.keep hk hc hs.1 (by decide), h.keep hk hc hs.2 (by decide)⟩
/-- All lies behind W. -/
def Beyond (W : World) (cb v f r : Nat → Nat) (bu : Nat) : Prop := (∀ k, k < 2 → W.heap.size ≤ v k ∧ W.heap.size ≤ f k ∧ W.heap.size ≤ r k ∧ W.heap.size ≤ cb k) ∧ W.heap.size ≤ bu
theorem Beyond.grows {W : World} (h : Beyond W cb v f r bu) {k : Nat} (hk : k < 2) (hc : Chg [v k, r k, bu, cb 0, cb 1, f k] w w') (hg : Grows W w) : Grows W w' :=
  hc.to_grows hg (by
    have h1 := h.1 k hk
    have h2 := h.1 0 (by omega)
    have h3 := h.1 1 (by omega)
    simp only [List.forall_mem_cons]
    exact ⟨h1.1, h1.2.2.1, h.2, h2.2.2.2, h3.2.2.2, h1.2.1, fun _ hx => by cases hx⟩)
theorem cb_mem {c k : Nat} (hc : c < 2) : cb c ∈ [v k, r k, bu, cb 0, cb 1, f k] := by
  rcases (show c = 0 ∨ c = 1 by omega) with rfl | rfl <;> simp
/-- A turn of one's state. -/
theorem PlayAt.turned (h : PlayAt w pm me cb v f r bu g ix st s co R rf u) {k : Nat} (hk : k < 2) {w1 w2 : World} {S : Int} {e1 e2 : Ending} (hS : S = s k ∨ (s k ≠ 2 ∧ S ≠ 2)) (hv : VcAt w1 (v k) (f k) (g k) ix S (co k) (R k) (rf k)) (hc1 : Chg [v k] w w1) (hr : RfAt w2 (r k) (g k) ix S (co k) (R k)) (hc2 : Chg [r k] w1 w2) :
    (∃ s', PlayAt w2 pm me cb v f r bu g ix st s' co R rf u) ∧ Chg [v k, r k, bu, cb 0, cb 1, f k] w w2 := by
  have hc : Chg [v k, r k, bu, f k] w w2 := (hc1.weaken (by simp)).trans (hc2.weaken (by simp))
  have hap := h.apart hk
  have hn := h.next hk (c := 0) (by omega) (hc.weaken (by simp)) (h.mach' hk hc) (hv.chg hc2 (by simp; exact ⟨fun e => hap.1 e.symm, fun e => hap.2.1 e.symm⟩)) hr ((h.us.chg hc1 (by simp; exact hap.2.2.2.1)).chg hc2 (by simp; exact fun e => hap.2.2.1 e.symm)) (by
    rcases hS with rfl | ⟨h1, h2⟩
    · exact h.run k hk
    · rcases h.run k hk with ⟨h3, _⟩ | ⟨_, h3⟩
      · exact absurd h3 h1
      · exact Or.inr ⟨h2, h3⟩) (fun _ _ _ _ _ _ => ⟨rfl, rfl⟩) h.free
  rw [upd_self, upd_self, upd_self] at hn
  exact ⟨⟨_, hn⟩, hc.weaken (by simp)⟩
/-- One enters. -/
theorem PlayAt.entered (h : PlayAt w pm me cb v f r bu g ix st s co R rf u) {k c : Nat} (hk : k < 2) (hc : c < 2) (hu : u c = 0) {w1 : World} (hM : MachAt w1 pm me 2 2 cb (fun i => if i = c then some (cxL (g k) (R k) (f k) 0) else st i)) (hv : VcAt w1 (v k) (f k) (g k) ix 2 c (R k) (rf k)) (hr : RfAt w1 (r k) (g k) ix 2 c (R k)) (hC : Chg [v k, r k, cb c] w w1) :
    (∃ st s co R rf u, PlayAt (w1.setCell ⟨bu, c, none⟩ (.int .i64 (1 + k))) pm me cb v f r bu g ix st s co R rf u) ∧ Chg [v k, r k, bu, cb 0, cb 1, f k] w (w1.setCell ⟨bu, c, none⟩ (.int .i64 (1 + k))) := by
  have hap := h.apart hk
  have hu1 := h.us.chg hC (by simp; exact ⟨hap.2.2.2.1, fun e => hap.2.2.1 e.symm, fun e => (hap.2.2.2.2.2.2 c hc).2.2.2 e.symm⟩)
  have hcu : Chg [bu] w1 (w1.setCell ⟨bu, c, none⟩ (.int .i64 (1 + k))) := (Chg.refl _ _).setCell (Or.inl (by simp)) _ _
  have hu2 : Row (w1.setCell ⟨bu, c, none⟩ (.int .i64 (1 + k))) bu #[.int .i64 (upd u c (1 + k) 0), .int .i64 (upd u c (1 + k) 1)] 40 := by
    have := hu1.put c (.int .i64 (1 + k))
    rcases (show c = 0 ∨ c = 1 by omega) with rfl | rfl <;> exact this
  have hM2 : MachAt (w1.setCell ⟨bu, c, none⟩ (.int .i64 (1 + k))) pm me 2 2 cb (fun i => if i = c then some (cxL (g k) (R k) (f k) 0) else st i) := hM.chg hcu (by
    obtain ⟨_, _, _, hm, _⟩ := hM.hd
    obtain ⟨_, hq⟩ := hM.mem
    simp only [List.mem_cons, List.not_mem_nil, or_false]
    exact ⟨fun e => by rw [← e] at hu1; exact absurd (row_type hm hu1) (by decide), fun e => by rw [← e] at hu1; exact absurd (row_type hq hu1) (by decide), fun i hi => (hap.2.2.2.2.2.2 i hi).2.2.2⟩) (fun b hb => by simp at hb; subst hb; exact ⟨_, _, hu1, by decide⟩)
  have hall : Chg [v k, r k, bu, cb c, f k] w (w1.setCell ⟨bu, c, none⟩ (.int .i64 (1 + k))) := (hC.weaken (by simp)).trans (hcu.weaken (by simp))
  have hn := h.next hk hc hall hM2 (hv.chg hcu (by simp; exact ⟨fun e => hap.2.2.2.1 e.symm, fun e => hap.2.2.2.2.1 e.symm⟩)) (hr.chg hcu (by simp; exact hap.2.2.1)) hu2
    (Or.inl ⟨rfl, c, hc, rfl, if_pos rfl, upd_same _ _ _⟩)
    (fun j hj hjk c' hc' h1 => by
      have hne : c' ≠ c := fun e => by rw [e, hu] at h1; omega
      exact ⟨if_neg hne, upd_ne _ _ hne⟩)
    (fun c' hc' => by
      by_cases e : c' = c
      · subst e; exact Or.inl ⟨by rw [upd_same]; omega, _, if_pos rfl, cxL_ok (h.vc k hk).reg⟩
      · rw [upd_ne _ _ e, if_neg e]; exact h.free c' hc')
  exact ⟨⟨_, _, _, _, _, _, hn⟩, hall.weaken (by
    rcases (show c = 0 ∨ c = 1 by omega) with rfl | rfl <;> simp)⟩
/-- One that runs is told so once more. -/
theorem PlayAt.again (h : PlayAt w pm me cb v f r bu g ix st s co R rf u) {k c : Nat} (hk : k < 2) (hc : c < 2) (hu : u c = 1 + k) :
    (∃ st s co R rf u, PlayAt (w.setCell ⟨bu, c, none⟩ (.int .i64 (1 + k))) pm me cb v f r bu g ix st s co R rf u) ∧ Chg [v k, r k, bu, cb 0, cb 1, f k] w (w.setCell ⟨bu, c, none⟩ (.int .i64 (1 + k))) := by
  have hap := h.apart hk
  have hcu : Chg [bu] w (w.setCell ⟨bu, c, none⟩ (.int .i64 (1 + k))) := (Chg.refl _ _).setCell (Or.inl (by simp)) _ _
  have hu2 : Row (w.setCell ⟨bu, c, none⟩ (.int .i64 (1 + k))) bu #[.int .i64 (u 0), .int .i64 (u 1)] 40 := by
    have := h.us.put c (.int .i64 (1 + k))
    rcases (show c = 0 ∨ c = 1 by omega) with rfl | rfl
    · rw [hu]; exact this
    · rw [hu]; exact this
  have hall : Chg [v k, r k, bu, f k] w (w.setCell ⟨bu, c, none⟩ (.int .i64 (1 + k))) := hcu.weaken (by simp)
  have hn := h.next hk (c := 0) (by omega) (hall.weaken (by simp)) (h.mach' hk hall) ((h.vc k hk).chg hcu (by simp; exact ⟨fun e => hap.2.2.2.1 e.symm, fun e => hap.2.2.2.2.1 e.symm⟩)) ((h.rv k hk).chg hcu (by simp; exact hap.2.2.1)) hu2 (h.run k hk) (fun _ _ _ _ _ _ => ⟨rfl, rfl⟩) h.free
  exact ⟨⟨_, _, _, _, _, _, hn⟩, hall.weaken (by simp)⟩
/-- One leaves. -/
theorem PlayAt.left (h : PlayAt w pm me cb v f r bu g ix st s co R rf u) {k c : Nat} (hk : k < 2) (hc : c < 2) (hu : u c = 1 + k) {w1 : World} (hM : MachAt w1 pm me 2 2 cb (fun i => if i = c then none else st i)) (hv : VcAt w1 (v k) (f k) (g k) ix 1 (-1) (R k) (rf k)) (hC : Chg [cb c, v k] w w1) (hs : s k = 2) (hco : co k = c) :
    let W := ((w1.setCell ⟨bu, c, none⟩ (.int .i64 0)).setCell ⟨r k, 2, none⟩ (.int .i64 1)).setCell ⟨r k, 3, none⟩ (.int .i64 (-1))
    (∃ st s co R rf u, PlayAt W pm me cb v f r bu g ix st s co R rf u) ∧ Chg [v k, r k, bu, cb 0, cb 1, f k] w W := by
  intro W
  have hap := h.apart hk
  have hu1 := h.us.chg hC (by simp; exact ⟨fun e => (hap.2.2.2.2.2.2 c hc).2.2.2 e.symm, hap.2.2.2.1⟩)
  have hr1 := (h.rv k hk).chg hC (by simp; exact ⟨fun e => (hap.2.2.2.2.2.2 c hc).2.2.1 e.symm, hap.1⟩)
  have hcu : Chg [bu, r k] w1 W := (((Chg.refl _ _).setCell (Or.inl (by simp)) _ _).setCell (Or.inl (by simp)) _ _).setCell (Or.inl (by simp)) _ _
  have hu2 : Row (w1.setCell ⟨bu, c, none⟩ (.int .i64 0)) bu #[.int .i64 (upd u c 0 0), .int .i64 (upd u c 0 1)] 40 := by
    have := hu1.put c (.int .i64 0)
    rcases (show c = 0 ∨ c = 1 by omega) with rfl | rfl <;> exact this
  have hc1 : Chg [bu] w1 (w1.setCell ⟨bu, c, none⟩ (.int .i64 0)) := (Chg.refl _ _).setCell (Or.inl (by simp)) _ _
  have hc2 : Chg [r k] (w1.setCell ⟨bu, c, none⟩ (.int .i64 0)) W := ((Chg.refl _ _).setCell (Or.inl (by simp)) _ _).setCell (Or.inl (by simp)) _ _
  have hr2 : RfAt W (r k) (g k) ix 1 (-1) (R k) := ((hr1.chg hc1 (by simp; exact hap.2.2.1)).set2 1).set3 (-1)
  have hM2 : MachAt W pm me 2 2 cb (fun i => if i = c then none else st i) := hM.chg hcu (by
    obtain ⟨_, _, _, hm, _⟩ := hM.hd
    obtain ⟨_, hq⟩ := hM.mem
    have hr1 := hr1.row
    simp only [List.mem_cons, List.not_mem_nil, or_false, not_or]
    exact ⟨⟨fun e => by rw [← e] at hu1; exact absurd (row_type hm hu1) (by decide), fun e => by rw [← e] at hr1; exact absurd (row_type hm hr1) (by decide)⟩, ⟨fun e => by rw [← e] at hu1; exact absurd (row_type hq hu1) (by decide), fun e => by rw [← e] at hr1; exact absurd (row_type hq hr1) (by decide)⟩, fun i hi => ⟨(hap.2.2.2.2.2.2 i hi).2.2.2, (hap.2.2.2.2.2.2 i hi).2.2.1⟩⟩) (fun b hb => by
      simp at hb
      rcases hb with rfl | rfl
      · exact ⟨_, _, hu1, by decide⟩
      · exact ⟨_, _, hr1.row, by decide⟩)
  have hall : Chg [v k, r k, bu, cb c, f k] w W := (hC.weaken (by simp)).trans (hcu.weaken (by simp))
  have hn := h.next hk hc hall hM2 (hv.chg hcu (by simp; exact ⟨⟨fun e => hap.2.2.2.1 e.symm, fun e => hap.1 e.symm⟩, fun e => hap.2.2.2.2.1 e.symm, fun e => hap.2.1 e.symm⟩)) hr2 (hu2.chg hc2 (by simp; exact fun e => hap.2.2.1 e.symm))
    (Or.inr ⟨by omega, rfl⟩)
    (fun j hj hjk c' hc' h1 => by
      have hne : c' ≠ c := fun e => by rw [e, hu] at h1; omega
      exact ⟨if_neg hne, upd_ne _ _ hne⟩)
    (fun c' hc' => by
      by_cases e : c' = c
      · subst e; exact Or.inr ⟨upd_same _ _ _, if_pos rfl⟩
      · rw [upd_ne _ _ e, if_neg e]; exact h.free c' hc')
  exact ⟨⟨_, _, _, _, _, _, hn⟩, hall.weaken (by
    rcases (show c = 0 ∨ c = 1 by omega) with rfl | rfl <;> simp)⟩
/-- One's registers are set. -/
theorem PlayAt.set (h : PlayAt w pm me cb v f r bu g ix st s co R rf u) {k : Nat} (hk : k < 2) {w1 w2 : World} {R' : List Value} (hs : s k ≠ 2) (hv : VcAt w1 (v k) (f k) (g k) ix (s k) (co k) R' (rf k)) (hc1 : Chg [v k] w w1) (hr : RfAt w2 (r k) (g k) ix (s k) (co k) R') (hc2 : Chg [r k] w1 w2) :
    (∃ st s co R rf u, PlayAt w2 pm me cb v f r bu g ix st s co R rf u) ∧ Chg [v k, r k, bu, cb 0, cb 1, f k] w w2 := by
  have hc : Chg [v k, r k, bu, f k] w w2 := (hc1.weaken (by simp)).trans (hc2.weaken (by simp))
  have hap := h.apart hk
  have hn := h.next hk (c := 0) (by omega) (hc.weaken (by simp)) (h.mach' hk hc) (hv.chg hc2 (by simp; exact ⟨fun e => hap.1 e.symm, fun e => hap.2.1 e.symm⟩)) hr ((h.us.chg hc1 (by simp; exact hap.2.2.2.1)).chg hc2 (by simp; exact fun e => hap.2.2.1 e.symm)) (by
    rcases h.run k hk with ⟨h3, _⟩ | ⟨_, h3⟩
    · exact absurd h3 hs
    · exact Or.inr ⟨hs, h3⟩) (fun _ _ _ _ _ _ => ⟨rfl, rfl⟩) h.free
  exact ⟨⟨_, _, _, _, _, _, hn⟩, hc.weaken (by simp)⟩
/-- What regs tells. -/
theorem PlayAt.regs (h : PlayAt w pm me cb v f r bu g ix st s co R rf u) {k : Nat} (hk : k < 2) : Calls Try.prog 22 #[.pointer (some ⟨v k, 0, none⟩), .pointer (some ⟨pm, 0, none⟩)] w fun e w' => e = .returned (.agg (R k).toArray) ∧ Grows w w' := by
  have hv := h.vc k hk
  rcases h.run k hk with ⟨h1, c, hc, h2, h3, h4⟩ | ⟨h1, _⟩
  · rw [h1, h2] at hv
    exact regs_core h.mach (by omega) hc h3 hv.reg hv
  · exact regs_own hv h1 _
theorem neq_regL {R : List Value} (h : RegL R) (w : World) : (binOp .neq 43 (.agg R.toArray) (.agg R.toArray)).run Try.prog w = .ok (.bool false) w := by
  obtain ⟨x0, x1, x2, x3, x4, x5, x6, x7, x8, x9, x10, x11, x12, x13, x14, x15, pc, m, rfl⟩ := h
  exact neq_regs x0 x1 x2 x3 x4 x5 x6 x7 x8 x9 x10 x11 x12 x13 x14 x15 pc m w
theorem EntersP.chg {k : Nat} {e : Ending} (h : EntersP w w' pm me cb v f r bu g ix st s co R rf u k e) : Chg [v k, r k, bu, cb 0, cb 1, f k] w w' := by
  rcases h.2 with hg | ⟨c, hc, _, _, _, _, _, _, hC⟩
  · exact Chg.of_grows hg
  · refine hC.weaken ?_
    rcases (show c = 0 ∨ c = 1 by omega) with rfl | rfl <;> simp
end
end Go.Proofs.Ytilefidnjjbboaa
