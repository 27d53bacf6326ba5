/- What one act of FramesPlay does to both. -/
import Derived.Test.YtbiadhgkpggdeaaRFrS
import Derived.Deep.RegionHeld3
namespace Go.Proofs.Ytbiadhgkpggdeaa
open Go Go.RowKit
set_option linter.unusedSimpArgs false
set_option linter.unusedVariables false
/-- Both tell the same. -/
structure Two (w : World) (p bt bw rp rq n first : Nat) (T O : Nat → Nat) (quo : Nat → Int) (low : Nat) : Prop where
  f : FrAt w p bt bw n first T O quo low
  r : RfAt w rp rq n first T O quo
  ne : rp ∉ [p, bt, bw] ∧ rq ∉ [p, bt, bw]
theorem Two.chg {S : List Nat} {w w' : World} {p bt bw rp rq n first low : Nat} {T O : Nat → Nat} {quo : Nat → Int} (h : Two w p bt bw rp rq n first T O quo low) (hc : Chg S w w') (h1 : (p ∉ S ∧ bt ∉ S ∧ bw ∉ S) ∧ rp ∉ S ∧ rq ∉ S) : Two w' p bt bw rp rq n first T O quo low :=
  ⟨h.f.chg hc h1.1, h.r.chg hc h1.2, h.ne⟩
theorem Two.grows {w w' : World} {p bt bw rp rq n first low : Nat} {T O : Nat → Nat} {quo : Nat → Int} (h : Two w p bt bw rp rq n first T O quo low) (hg : Grows w w') : Two w' p bt bw rp rq n first T O quo low :=
  h.chg (S := []) (Chg.of_grows hg) (by simp)
theorem Two.lt {w : World} {p bt bw rp rq n first low : Nat} {T O : Nat → Nat} {quo : Nat → Int} (h : Two w p bt bw rp rq n first T O quo low) : p < w.heap.size ∧ bt < w.heap.size ∧ bw < w.heap.size ∧ rp < w.heap.size ∧ rq < w.heap.size := by
  have h1 := h.f.row.lt
  have h2 := h.f.tm.lt
  obtain ⟨_, _, _, h3, _⟩ := h.f.wh
  have h3 := h3.lt
  exact ⟨h1, h2, h3, h.r.lt⟩
theorem two_step {w w2 w3 : World} {p bt bw rp rq n first low low' : Nat} {T O T' O' : Nat → Nat} {quo quo' : Nat → Int} (h : Two w p bt bw rp rq n first T O quo low) (hF : FrAt w2 p bt bw n first T' O' quo' low') (hC : Chg [p, bt, bw] w w2) (hR : RfAt w3 rp rq n first T' O' quo') (hC' : Chg [rp, rq] w2 w3) :
    Two w3 p bt bw rp rq n first T' O' quo' low' ∧ Chg [p, bt, bw, rp, rq] w w3 := by
  have hne := h.ne
  simp at hne
  exact ⟨⟨hF.chg hC' (by simp; omega), hR, h.ne⟩, (hC.weaken (by simp)).step hC' (by simp)⟩
def actA (K F Ow To : Int) : Array Value := #[.int .i64 K, .int .i64 F, .int .i64 Ow, .int .i64 To]
theorem act_cells {w : World} {b : Nat} {K F Ow To : Int} {t : TypeId} (h : Row w b (actA K F Ow To) t) :
    w.cell? ⟨b, 0, none⟩ = some (.int .i64 K) ∧ w.cell? ⟨b, 1, none⟩ = some (.int .i64 F) ∧ w.cell? ⟨b, 2, none⟩ = some (.int .i64 Ow) ∧ w.cell? ⟨b, 3, none⟩ = some (.int .i64 To) :=
  ⟨h.cell 0, h.cell 1, h.cell 2, h.cell 3⟩
section
variable {w : World} {p bt bw rp rq n first low : Nat} {T O : Nat → Nat} {quo : Nat → Int} (h : Two w p bt bw rp rq n first T O quo low) (F Ow To : Int)
include h
set_option maxRecDepth 100000 in
set_option maxHeartbeats 1000000 in
theorem does_0 :
    Calls Try.prog 19 #[.pointer (some ⟨p, 0, none⟩), .pointer (some ⟨rp, 0, none⟩), .agg (actA 0 F Ow To)] w fun r w' => r = .returned (.bool true) ∧ (∃ T O quo low, Two w' p bt bw rp rq n first T O quo low) ∧ Chg [p, bt, bw, rp, rq] w w' := by
  unfold actA
  go_enter Try.func19, Try.ntmps19
  go_wp2_with fail
  obtain ⟨ba, hba⟩ : ∃ ba, ba = w.heap.size := ⟨_, rfl⟩
  have hR : Row (w.alloc (Obj.cells #[Value.int .i64 0, .int .i64 F, .int .i64 Ow, .int .i64 To] 29)) ba (actA 0 F Ow To) 29 := Row.new_at _ _ _ hba
  have hG := (Grows.refl w).alloc (Obj.cells #[Value.int .i64 0, .int .i64 F, .int .i64 Ow, .int .i64 To] 29)
  have hne : ba ∉ [p, bt, bw] ∧ ba ∉ [rp, rq] := by have := h.lt; simp; omega
  rw [← hba]
  clear hba
  generalize (w.alloc (Obj.cells #[Value.int .i64 0, .int .i64 F, .int .i64 Ow, .int .i64 To] 29)) = W at *
  have HB := Lib.hid (h.grows hG)
  have HR := Lib.hid hR
  have HN := Lib.hid hne
  have HG := Lib.hid hG
  clear h hR hne hG
  have x0 := (act_cells HR.out).1
  have x1 := (act_cells HR.out).2.1
  have x2 := (act_cells HR.out).2.2.1
  have x3 := (act_cells HR.out).2.2.2
  go_wp2_with fail
  refine (Alloc_all HB.out.f Ow).mono ?_
  rintro _ w2 ⟨kf, e, T', O', low', rfl, hM2, hC2, hX2⟩
  have HR1 := Lib.hid (HR.out.chg hC2 HN.out.1)
  have HM2 := Lib.hid hM2
  have HC2 := Lib.hid hC2
  have hrc := RAlloc_all (HB.out.r.chg hC2 HB.out.ne) hX2
  have y0 := (act_cells HR1.out).1
  have y1 := (act_cells HR1.out).2.1
  have y2 := (act_cells HR1.out).2.2.1
  clear hM2 hC2 hX2 x0 x1 x2 x3
  go_wp2_with fail
  refine hrc.mono ?_
  rintro _ w3 ⟨rfl, hM3, hC3⟩
  have HM3 := Lib.hid hM3
  have HC3 := Lib.hid hC3
  clear hrc hM3 hC3 y0 y1 y2
  go_wp2_with fail
  go_ret
  have hb := two_step HB.out HM2.out HC2.out HM3.out HC3.out
  exact ⟨by simp, ⟨_, _, _, _, hb.1⟩, (Chg.of_grows HG.out).trans hb.2⟩
set_option maxRecDepth 100000 in
set_option maxHeartbeats 1000000 in
theorem does_2 :
    Calls Try.prog 19 #[.pointer (some ⟨p, 0, none⟩), .pointer (some ⟨rp, 0, none⟩), .agg (actA 2 F Ow To)] w fun r w' => r = .returned (.bool true) ∧ (∃ T O quo low, Two w' p bt bw rp rq n first T O quo low) ∧ Chg [p, bt, bw, rp, rq] w w' := by
  unfold actA
  go_enter Try.func19, Try.ntmps19
  go_wp2_with fail
  obtain ⟨ba, hba⟩ : ∃ ba, ba = w.heap.size := ⟨_, rfl⟩
  have hR : Row (w.alloc (Obj.cells #[Value.int .i64 2, .int .i64 F, .int .i64 Ow, .int .i64 To] 29)) ba (actA 2 F Ow To) 29 := Row.new_at _ _ _ hba
  have hG := (Grows.refl w).alloc (Obj.cells #[Value.int .i64 2, .int .i64 F, .int .i64 Ow, .int .i64 To] 29)
  have hne : ba ∉ [p, bt, bw] ∧ ba ∉ [rp, rq] := by have := h.lt; simp; omega
  rw [← hba]
  clear hba
  generalize (w.alloc (Obj.cells #[Value.int .i64 2, .int .i64 F, .int .i64 Ow, .int .i64 To] 29)) = W at *
  have HB := Lib.hid (h.grows hG)
  have HR := Lib.hid hR
  have HN := Lib.hid hne
  have HG := Lib.hid hG
  clear h hR hne hG
  have x0 := (act_cells HR.out).1
  have x1 := (act_cells HR.out).2.1
  have x2 := (act_cells HR.out).2.2.1
  have x3 := (act_cells HR.out).2.2.2
  go_wp2_with fail
  refine (Free_all HB.out.f F Ow).mono ?_
  rintro _ w2 ⟨fl, e, T', low', rfl, hM2, hC2, hX2⟩
  have HR1 := Lib.hid (HR.out.chg hC2 HN.out.1)
  have HM2 := Lib.hid hM2
  have HC2 := Lib.hid hC2
  have hrc := RFree_all (HB.out.r.chg hC2 HB.out.ne) hX2
  have y0 := (act_cells HR1.out).1
  have y1 := (act_cells HR1.out).2.1
  have y2 := (act_cells HR1.out).2.2.1
  clear hM2 hC2 hX2 x0 x1 x2 x3
  go_wp2_with fail
  refine hrc.mono ?_
  rintro _ w3 ⟨rfl, hM3, hC3⟩
  have HM3 := Lib.hid hM3
  have HC3 := Lib.hid hC3
  clear hrc hM3 hC3 y0 y1 y2
  go_wp2_with fail
  go_ret
  have hb := two_step HB.out HM2.out HC2.out HM3.out HC3.out
  exact ⟨by simp, ⟨_, _, _, _, hb.1⟩, (Chg.of_grows HG.out).trans hb.2⟩
set_option maxRecDepth 100000 in
set_option maxHeartbeats 1000000 in
theorem does_1 :
    Calls Try.prog 19 #[.pointer (some ⟨p, 0, none⟩), .pointer (some ⟨rp, 0, none⟩), .agg (actA 1 F Ow To)] w fun r w' => r = .returned (.bool true) ∧ (∃ T O quo low, Two w' p bt bw rp rq n first T O quo low) ∧ Chg [p, bt, bw, rp, rq] w w' := by
  unfold actA
  go_enter Try.func19, Try.ntmps19
  go_wp2_with fail
  obtain ⟨ba, hba⟩ : ∃ ba, ba = w.heap.size := ⟨_, rfl⟩
  have hR : Row (w.alloc (Obj.cells #[Value.int .i64 1, .int .i64 F, .int .i64 Ow, .int .i64 To] 29)) ba (actA 1 F Ow To) 29 := Row.new_at _ _ _ hba
  have hG := (Grows.refl w).alloc (Obj.cells #[Value.int .i64 1, .int .i64 F, .int .i64 Ow, .int .i64 To] 29)
  have hne : ba ∉ [p, bt, bw] ∧ ba ∉ [rp, rq] := by have := h.lt; simp; omega
  rw [← hba]
  clear hba
  generalize (w.alloc (Obj.cells #[Value.int .i64 1, .int .i64 F, .int .i64 Ow, .int .i64 To] 29)) = W at *
  have HB := Lib.hid (h.grows hG)
  have HR := Lib.hid hR
  have HN := Lib.hid hne
  have HG := Lib.hid hG
  clear h hR hne hG
  go_region_held3 (fun w' => w'.cell? ⟨ba, 1, none⟩ = some (.int .i64 F) ∧ w'.cell? ⟨ba, 2, none⟩ = some (.int .i64 Ow) ∧ w'.cell? ⟨ba, 3, none⟩ = some (.int .i64 To)) (first
    | exact (act_cells HR2.out).2
    | exact (act_cells HR1.out).2
    | exact (act_cells HR.out).2)
    (first
    | (go_at_call 14; refine (Hold_all (HB.out.grows ((Grows.refl _).drew)).f F Ow).mono ?_; rintro _ w2 ⟨e, T', rfl, hM2, hC2, hX2⟩
       have HR1 := Lib.hid ((HR.out.grows ((Grows.refl _).drew)).chg hC2 HN.out.1)
       have HM2 := Lib.hid hM2
       have HC2 := Lib.hid hC2
       have HX2 := Lib.hid hX2
       clear hM2 hC2 hX2)
    | (go_at_call 26; refine (RHold_all ((HB.out.grows ((Grows.refl _).drew)).r.chg HC2.out HB.out.ne) HX2.out).mono ?_; rintro _ w3 ⟨rfl, hM3, hC3⟩
       have HR2 := Lib.hid (HR1.out.chg hC3 HN.out.2)
       have HM3 := Lib.hid hM3
       have HC3 := Lib.hid hC3
       clear hM3 hC3))
  go_wp2_with fail
  go_ret
  have hb := two_step (HB.out.grows ((Grows.refl _).drew)) HM2.out HC2.out HM3.out HC3.out
  exact ⟨by simp, ⟨_, _, _, _, hb.1⟩, (Chg.of_grows (HG.out.drew)).trans hb.2⟩
set_option maxRecDepth 100000 in
set_option maxHeartbeats 1000000 in
theorem does_3 :
    Calls Try.prog 19 #[.pointer (some ⟨p, 0, none⟩), .pointer (some ⟨rp, 0, none⟩), .agg (actA 3 F Ow To)] w fun r w' => r = .returned (.bool true) ∧ (∃ T O quo low, Two w' p bt bw rp rq n first T O quo low) ∧ Chg [p, bt, bw, rp, rq] w w' := by
  unfold actA
  go_enter Try.func19, Try.ntmps19
  go_wp2_with fail
  obtain ⟨ba, hba⟩ : ∃ ba, ba = w.heap.size := ⟨_, rfl⟩
  have hR : Row (w.alloc (Obj.cells #[Value.int .i64 3, .int .i64 F, .int .i64 Ow, .int .i64 To] 29)) ba (actA 3 F Ow To) 29 := Row.new_at _ _ _ hba
  have hG := (Grows.refl w).alloc (Obj.cells #[Value.int .i64 3, .int .i64 F, .int .i64 Ow, .int .i64 To] 29)
  have hne : ba ∉ [p, bt, bw] ∧ ba ∉ [rp, rq] := by have := h.lt; simp; omega
  rw [← hba]
  clear hba
  generalize (w.alloc (Obj.cells #[Value.int .i64 3, .int .i64 F, .int .i64 Ow, .int .i64 To] 29)) = W at *
  have HB := Lib.hid (h.grows hG)
  have HR := Lib.hid hR
  have HN := Lib.hid hne
  have HG := Lib.hid hG
  clear h hR hne hG
  go_region_held3 (fun w' => w'.cell? ⟨ba, 1, none⟩ = some (.int .i64 F) ∧ w'.cell? ⟨ba, 2, none⟩ = some (.int .i64 Ow) ∧ w'.cell? ⟨ba, 3, none⟩ = some (.int .i64 To)) (first
    | exact (act_cells HR2.out).2
    | exact (act_cells HR1.out).2
    | exact (act_cells HR.out).2)
    (first
    | (go_at_call 12; refine (Move_all (HB.out.grows ((Grows.refl _).drew)).f F Ow To).mono ?_; rintro _ w2 ⟨e, O', rfl, hM2, hC2, hX2⟩
       have HR1 := Lib.hid ((HR.out.grows ((Grows.refl _).drew)).chg hC2 HN.out.1)
       have HM2 := Lib.hid hM2
       have HC2 := Lib.hid hC2
       have HX2 := Lib.hid hX2
       clear hM2 hC2 hX2)
    | (go_at_call 28; refine (RMove_all ((HB.out.grows ((Grows.refl _).drew)).r.chg HC2.out HB.out.ne) HX2.out).mono ?_; rintro _ w3 ⟨rfl, hM3, hC3⟩
       have HR2 := Lib.hid (HR1.out.chg hC3 HN.out.2)
       have HM3 := Lib.hid hM3
       have HC3 := Lib.hid hC3
       clear hM3 hC3))
  go_wp2_with fail
  go_ret
  have hb := two_step (HB.out.grows ((Grows.refl _).drew)) HM2.out HC2.out HM3.out HC3.out
  exact ⟨by simp, ⟨_, _, _, _, hb.1⟩, (Chg.of_grows (HG.out.drew)).trans hb.2⟩
set_option maxRecDepth 100000 in
set_option maxHeartbeats 1000000 in
theorem does_4 :
    Calls Try.prog 19 #[.pointer (some ⟨p, 0, none⟩), .pointer (some ⟨rp, 0, none⟩), .agg (actA 4 F Ow To)] w fun r w' => r = .returned (.bool true) ∧ (∃ T O quo low, Two w' p bt bw rp rq n first T O quo low) ∧ Chg [p, bt, bw, rp, rq] w w' := by
  unfold actA
  go_enter Try.func19, Try.ntmps19
  go_wp2_with fail
  obtain ⟨ba, hba⟩ : ∃ ba, ba = w.heap.size := ⟨_, rfl⟩
  have hR : Row (w.alloc (Obj.cells #[Value.int .i64 4, .int .i64 F, .int .i64 Ow, .int .i64 To] 29)) ba (actA 4 F Ow To) 29 := Row.new_at _ _ _ hba
  have hG := (Grows.refl w).alloc (Obj.cells #[Value.int .i64 4, .int .i64 F, .int .i64 Ow, .int .i64 To] 29)
  have hne : ba ∉ [p, bt, bw] ∧ ba ∉ [rp, rq] := by have := h.lt; simp; omega
  rw [← hba]
  clear hba
  generalize (w.alloc (Obj.cells #[Value.int .i64 4, .int .i64 F, .int .i64 Ow, .int .i64 To] 29)) = W at *
  have HB := Lib.hid (h.grows hG)
  have HR := Lib.hid hR
  have HN := Lib.hid hne
  have HG := Lib.hid hG
  clear h hR hne hG
  go_region_held3 (fun w' => w'.cell? ⟨ba, 1, none⟩ = some (.int .i64 F) ∧ w'.cell? ⟨ba, 2, none⟩ = some (.int .i64 Ow) ∧ w'.cell? ⟨ba, 3, none⟩ = some (.int .i64 To)) (first
    | exact (act_cells HR2.out).2
    | exact (act_cells HR1.out).2
    | exact (act_cells HR.out).2)
    (first
    | (go_at_call 8; refine (Quota_all (HB.out.grows ((Grows.refl _).drew)).f Ow To).mono ?_; rintro _ w2 ⟨e, quo', rfl, hM2, hC2, hX2⟩
       have HR1 := Lib.hid ((HR.out.grows ((Grows.refl _).drew)).chg hC2 HN.out.1)
       have HM2 := Lib.hid hM2
       have HC2 := Lib.hid hC2
       have HX2 := Lib.hid hX2
       clear hM2 hC2 hX2)
    | (go_at_call 29; refine (RQuota_all ((HB.out.grows ((Grows.refl _).drew)).r.chg HC2.out HB.out.ne) HX2.out).mono ?_; rintro _ w3 ⟨rfl, hM3, hC3⟩
       have HR2 := Lib.hid (HR1.out.chg hC3 HN.out.2)
       have HM3 := Lib.hid hM3
       have HC3 := Lib.hid hC3
       clear hM3 hC3))
  go_wp2_with fail
  go_ret
  have hb := two_step (HB.out.grows ((Grows.refl _).drew)) HM2.out HC2.out HM3.out HC3.out
  exact ⟨by simp, ⟨_, _, _, _, hb.1⟩, (Chg.of_grows (HG.out.drew)).trans hb.2⟩
set_option maxRecDepth 100000 in
theorem does_any (K : Int) :
    Calls Try.prog 19 #[.pointer (some ⟨p, 0, none⟩), .pointer (some ⟨rp, 0, none⟩), .agg (actA K F Ow To)] w fun r w' => r = .returned (.bool true) ∧ (∃ T O quo low, Two w' p bt bw rp rq n first T O quo low) ∧ Chg [p, bt, bw, rp, rq] w w' := by
  by_cases k0 : K = 0
  · subst k0; exact does_0 h F Ow To
  by_cases k1 : K = 1
  · subst k1; exact does_1 h F Ow To
  by_cases k2 : K = 2
  · subst k2; exact does_2 h F Ow To
  by_cases k3 : K = 3
  · subst k3; exact does_3 h F Ow To
  by_cases k4 : K = 4
  · subst k4; exact does_4 h F Ow To
  · have q0 : (K == 0) = false := by simp; exact k0
    have q1 : (K == 1) = false := by simp; exact k1
    have q2 : (K == 2) = false := by simp; exact k2
    have q3 : (K == 3) = false := by simp; exact k3
    have q4 : (K == 4) = false := by simp; exact k4
    unfold actA
    go_enter Try.func19, Try.ntmps19
    go_wp2_with fail
    obtain ⟨ba, hba⟩ : ∃ ba, ba = w.heap.size := ⟨_, rfl⟩
    have hR : Row (w.alloc (Obj.cells #[Value.int .i64 K, .int .i64 F, .int .i64 Ow, .int .i64 To] 29)) ba (actA K F Ow To) 29 := Row.new_at _ _ _ hba
    have hG := (Grows.refl w).alloc (Obj.cells #[Value.int .i64 K, .int .i64 F, .int .i64 Ow, .int .i64 To] 29)
    have hne : ba ∉ [p, bt, bw] ∧ ba ∉ [rp, rq] := by have := h.lt; simp; omega
    rw [← hba]
    clear hba
    generalize (w.alloc (Obj.cells #[Value.int .i64 K, .int .i64 F, .int .i64 Ow, .int .i64 To] 29)) = W at *
    have HB := Lib.hid (h.grows hG)
    have HR := Lib.hid hR
    have HN := Lib.hid hne
    have HG := Lib.hid hG
    clear h hR hne hG
    have x0 := (act_cells HR.out).1
    clear k0 k1 k2 k3 k4
    go_wp2_with fail
    go_ret
    exact ⟨rfl, ⟨_, _, _, _, HB.out⟩, Chg.of_grows HG.out⟩
end
end Go.Proofs.Ytbiadhgkpggdeaa
