/- What the functions of the package vcpu compute: Enter that the machine refuses; the reference. -/
import Derived.Test.YtilefidnjjbboaaVcpuN
namespace Go.Proofs.Ytilefidnjjbboaa
open Go Go.RowKit
set_option linter.unusedSimpArgs false
set_option linter.unusedVariables false
set_option maxRecDepth 100000 in
set_option maxHeartbeats 4000000 in
theorem put_arg {w : World} {pm me N F : Nat} {c : Int} {cb : Nat → Nat} {st : Nat → Option (List Value)} (h : MachAt w pm me N F cb st) (hN1 : 1 ≤ N) (hN : N ≤ 8) (hc : c < 0 ∨ (N : Int) ≤ c) (cx : List Value) :
    Calls Try.prog 32 #[.pointer (some ⟨pm, 0, none⟩), .int .i64 c, .agg cx.toArray] w fun e w' => e = .returned (.int .i64 2) ∧ Grows w w' := by
  go_enter Try.func32, Try.ntmps32
  go_wp2_with fail
  have hg : Grows w (w.alloc (Obj.cells cx.toArray 61)) := (Grows.refl _).alloc _
  have hof := of_bad (h.grows hg) hN1 hN hc
  have HG := Lib.hid hg
  clear h hg
  refine hof.mono ?_
  rintro _ _ ⟨rfl, hw⟩
  rw [hw]
  clear hw hof
  go_wp2_with fail
  go_ret
  exact ⟨rfl, HG.out⟩
set_option maxRecDepth 100000 in
set_option maxHeartbeats 4000000 in
theorem put_there {w : World} {pm me N F c : Nat} {cb : Nat → Nat} {st : Nat → Option (List Value)} {cx : List Value} (h : MachAt w pm me N F cb st) (hN : N ≤ 8) (hF : F ≤ 65536) (hc : c < N) (hst : st c = some cx) (hcx : CxOk cx) {g rt : Int} {fb : Nat} {R : List Value} {r : Nat → Int} (hR : RegL R) (hf : File w fb r) (hg : 0 ≤ g) (hrt : 0 ≤ rt) (hrF : rt < F) :
    Calls Try.prog 32 #[.pointer (some ⟨pm, 0, none⟩), .int .i64 c, .agg (cxL g R fb rt).toArray] w fun e w' => e = .returned (.int .i64 13) ∧ Grows w w' := by
  go_enter Try.func32, Try.ntmps32
  go_wp2_with fail
  obtain ⟨W1, hW1⟩ : ∃ W1, W1 = w.alloc (Obj.cells (cxL g R fb rt).toArray 61) := ⟨_, rfl⟩
  obtain ⟨b5, hb5⟩ : ∃ b, b = w.heap.size := ⟨_, rfl⟩
  rw [← hW1, ← hb5]
  have hr5 : Row W1 b5 (cxL g R fb rt).toArray 61 := by rw [hW1]; exact Row.new_at _ _ _ hb5
  have hg1 : Grows w W1 := by rw [hW1]; exact (Grows.refl _).alloc _
  have HM1 := Lib.hid (h.grows hg1)
  have HF1 : Hid (File W1 fb r) := Lib.hid (Row.grows hf hg1)
  have HR5 := Lib.hid hr5
  have HG1 := Lib.hid hg1
  have hof := of_ok HM1.out hN hc
  have d1 : decide (g < 0) = false := decide_eq_false (by omega)
  have d2 : decide (rt < 0) = false := decide_eq_false (by omega)
  have d3 : decide ((F : Int) ≤ rt) = false := decide_eq_false (by omega)
  clear hW1 hb5 hr5 hg1 h hf
  refine hof.mono ?_
  rintro _ _ ⟨rfl, hw⟩
  rw [hw]
  clear hw hof
  go_wp2_with fail
  go_region_held3 (fun w' => w'.cell? ⟨b5, 0, none⟩ = some (.int .i64 g) ∧ w'.cell? ⟨b5, 19, none⟩ = some (.pointer (some ⟨fb, 0, none⟩)) ∧ w'.cell? ⟨b5, 20, none⟩ = some (.int .i64 rt) ∧ w'.cell? ⟨pm, 0, none⟩ = some (.pointer (some ⟨me, 0, none⟩))) (first
    | exact put_keep HR3.out hR HM3.out
    | exact put_keep (HR5.out.grows ((Grows.refl _).drew)) hR (HM1.out.grows ((Grows.refl _).drew)))
    (first
    | (go_at_call 40; refine (clone_ok (r := r) (Row.grows HF1.out ((Grows.refl _).drew))).mono ?_; rintro _ w3 ⟨x3, rfl, hg3⟩
       have HR3 := Lib.hid ((HR5.out.grows ((Grows.refl _).drew)).grows hg3)
       have HM3 := Lib.hid ((HM1.out.grows ((Grows.refl _).drew)).grows hg3)
       have HG3 := Lib.hid ((HG1.out.drew).trans hg3)
       clear hg3)
    | (go_at_call 41; refine (frames_ok HM3.out.mem hF).mono ?_; rintro _ _ ⟨rfl, hw⟩; rw [hw]; clear hw))
  obtain ⟨kp, km, hs, ha, hrc⟩ := HM3.out.cores c hc
  rw [hst] at hrc
  have hrc : Row w3 (cb c) (coreA me pm cx true kp km hs ha) 88 := hrc
  obtain ⟨q1, q2, q3, q4⟩ := coreA_at (me := me) (pm := pm) (kp := kp) (km := km) (is := true) (hs := hs) (ha := ha) hcx.1
  have c23 : w3.cell? ⟨cb c, 23, none⟩ = some (.bool true) := by rw [hrc.cell]; exact q1
  clear hrc q1 q2 q3 q4 hst hcx
  go_wp2_with fail
  go_ret
  exact ⟨rfl, HG3.out⟩
set_option maxRecDepth 100000 in
set_option maxHeartbeats 4000000 in
theorem enter_bad {w : World} {pm me N F vb fb : Nat} {cb : Nat → Nat} {st : Nat → Option (List Value)} {g ix co rt c bad : Int} {R : List Value} {r : Nat → Int} (h : MachAt w pm me N F cb st) (hN1 : 1 ≤ N) (hN : N ≤ 8) (hv : VcAt w vb fb g ix 1 co R r) (hb : bad ≠ 0)
    (hput : ∀ W, Grows w W → Calls Try.prog 32 #[.pointer (some ⟨pm, 0, none⟩), .int .i64 c, .agg (cxL g R fb rt).toArray] W fun e w' => e = .returned (.int .i64 bad) ∧ Grows W w') :
    Calls Try.prog 10 #[.pointer (some ⟨vb, 0, none⟩), .pointer (some ⟨pm, 0, none⟩), .int .i64 c, .int .i64 rt] w fun e w' => e = .returned (.int .i64 bad) ∧ Grows w w' := by
  have hno := vnone_ok hv
  have hcs := cores_ok h
  have hbd := build_cx hv.reg g rt fb
  obtain ⟨c0, c2, c3, c22⟩ := hv.cells
  have hn0 : ((N : Int) == 0) = false := by simp; omega
  have HM := Lib.hid h
  have HV := Lib.hid hv
  clear h hv
  go_enter Try.func10, Try.ntmps10
  go_wp2_with fail
  refine (hno).mono ?_
  rintro _ _ ⟨rfl, hw⟩
  rw [hw]
  clear hw
  go_wp2_with fail
  refine (hcs).mono ?_
  rintro _ _ ⟨rfl, hw⟩
  rw [hw]
  clear hw
  go_wp2_with fail
  clear hno hcs c2 c3
  refine wp_region_held_drew (S := fun w' => VcAt w' vb fb g ix 1 co R r) (by kernel_rfl) (HV.out.grows ((Grows.refl _).drew)) (fun hHeld => ?_)
  refine wpAnyH_take (i := 0) (v := ?_) rfl (by kernel_rfl) (by kernel_rfl) (by kernel_rfl) (fun _ _ _ h => h) (Or.inl ⟨by rfl, ?_⟩) (by assumption) ?_
  rotate_left
  · intro w hSw
    go_simp
    try with_reducible rfl
  simp only [List.getElem_toArray, List.getElem_cons_succ, List.getElem_cons_zero, Act.put, List.setIfInBounds_toArray, List.set_cons_zero, List.set_cons_succ]
  refine wpAnyH_take (i := 1) (v := ?_) rfl (by kernel_rfl) (by kernel_rfl) (by kernel_rfl) (fun _ _ _ h => h) (Or.inl ⟨by rfl, ?_⟩) (by assumption) ?_
  rotate_left
  · intro w hSw
    go_simp
    try with_reducible rfl
  simp only [List.getElem_toArray, List.getElem_cons_succ, List.getElem_cons_zero, Act.put, List.setIfInBounds_toArray, List.set_cons_zero, List.set_cons_succ]
  refine wpAnyH_take (i := 2) (v := ?_) rfl (by kernel_rfl) (by kernel_rfl) (by kernel_rfl) (fun _ _ _ h => h) (Or.inl ⟨by rfl, ?_⟩) (by assumption) ?_
  rotate_left
  · intro w hSw
    go_simp
    try with_reducible rfl
  simp only [List.getElem_toArray, List.getElem_cons_succ, List.getElem_cons_zero, Act.put, List.setIfInBounds_toArray, List.set_cons_zero, List.set_cons_succ]
  refine wpAnyH_take (i := 3) (v := ?_) rfl (by kernel_rfl) (by kernel_rfl) (by kernel_rfl) (fun _ _ _ h => h) (Or.inl ⟨by rfl, ?_⟩) (by assumption) ?_
  rotate_left
  · intro w hSw
    go_simp
    try with_reducible rfl
  simp only [List.getElem_toArray, List.getElem_cons_succ, List.getElem_cons_zero, Act.put, List.setIfInBounds_toArray, List.set_cons_zero, List.set_cons_succ]
  refine wpAnyH_take (i := 4) (v := ?_) rfl (by kernel_rfl) (by kernel_rfl) (by kernel_rfl) (fun _ _ _ h => h) (Or.inl ⟨by rfl, ?_⟩) (by assumption) ?_
  rotate_left
  · intro w hSw
    go_simp
    try with_reducible rfl
  simp only [List.getElem_toArray, List.getElem_cons_succ, List.getElem_cons_zero, Act.put, List.setIfInBounds_toArray, List.set_cons_zero, List.set_cons_succ]
  refine wpAnyH_take (i := 5) (v := ?_) rfl (by kernel_rfl) (by kernel_rfl) (by kernel_rfl) (fun _ _ _ h => h) (Or.inl ⟨by rfl, ?_⟩) (by assumption) ?_
  rotate_left
  · intro w hSw
    obtain ⟨q0, q2, q3, q22⟩ := VcAt.cells hSw
    go_simp
    try with_reducible rfl
  simp only [List.getElem_toArray, List.getElem_cons_succ, List.getElem_cons_zero, Act.put, List.setIfInBounds_toArray, List.set_cons_zero, List.set_cons_succ]
  refine wpAnyH_take (i := 6) (v := ?_) rfl (by kernel_rfl) (by kernel_rfl) (by kernel_rfl) (fun _ _ _ h => h) (Or.inl ⟨by rfl, ?_⟩) (by assumption) ?_
  rotate_left
  · intro w hSw
    go_simp
    try with_reducible rfl
  simp only [List.getElem_toArray, List.getElem_cons_succ, List.getElem_cons_zero, Act.put, List.setIfInBounds_toArray, List.set_cons_zero, List.set_cons_succ]
  refine wpAnyH_take (i := 7) (v := ?_) rfl (by kernel_rfl) (by kernel_rfl) (by kernel_rfl) (fun _ _ _ h => h) (Or.inl ⟨by rfl, ?_⟩) (by assumption) ?_
  rotate_left
  · intro w hSw
    go_simp
    try with_reducible rfl
  simp only [List.getElem_toArray, List.getElem_cons_succ, List.getElem_cons_zero, Act.put, List.setIfInBounds_toArray, List.set_cons_zero, List.set_cons_succ]
  refine wpAnyH_take (i := 8) (v := ?_) rfl (by kernel_rfl) (by kernel_rfl) (by kernel_rfl) (fun _ _ _ h => h) (Or.inl ⟨by rfl, ?_⟩) (by assumption) ?_
  rotate_left
  · intro w hSw
    go_simp
    try with_reducible rfl
  simp only [List.getElem_toArray, List.getElem_cons_succ, List.getElem_cons_zero, Act.put, List.setIfInBounds_toArray, List.set_cons_zero, List.set_cons_succ]
  refine wpAnyH_take (i := 9) (v := .agg R.toArray) rfl (by kernel_rfl) (by kernel_rfl) (by kernel_rfl) (fun _ _ _ h => h) (yieldsIf_load_mid (by rfl) 43 _ (by rfl) vb 4 (by rfl) R _ (fun w hw => VcAt.range hw) Try.underlying43 (by rfl) (by rw [HV.out.reg.len]; kernel_rfl)) (by assumption) ?_
  simp only [List.getElem_toArray, List.getElem_cons_succ, List.getElem_cons_zero, Act.put, List.setIfInBounds_toArray, List.set_cons_zero, List.set_cons_succ]
  refine wpAnyH_take (i := 10) (v := ?_) rfl (by kernel_rfl) (by kernel_rfl) (by kernel_rfl) (fun _ _ _ h => h) (Or.inl ⟨by rfl, ?_⟩) (by assumption) ?_
  rotate_left
  · intro w hSw
    go_simp
    try with_reducible rfl
  simp only [List.getElem_toArray, List.getElem_cons_succ, List.getElem_cons_zero, Act.put, List.setIfInBounds_toArray, List.set_cons_zero, List.set_cons_succ]
  refine wpAnyH_take (i := 11) (v := ?_) rfl (by kernel_rfl) (by kernel_rfl) (by kernel_rfl) (fun _ _ _ h => h) (Or.inl ⟨by rfl, ?_⟩) (by assumption) ?_
  rotate_left
  · intro w hSw
    go_simp
    try with_reducible rfl
  simp only [List.getElem_toArray, List.getElem_cons_succ, List.getElem_cons_zero, Act.put, List.setIfInBounds_toArray, List.set_cons_zero, List.set_cons_succ]
  refine wpAnyH_take (i := 12) (v := ?_) rfl (by kernel_rfl) (by kernel_rfl) (by kernel_rfl) (fun _ _ _ h => h) (Or.inl ⟨by rfl, ?_⟩) (by assumption) ?_
  rotate_left
  · intro w hSw
    go_simp
    try with_reducible rfl
  simp only [List.getElem_toArray, List.getElem_cons_succ, List.getElem_cons_zero, Act.put, List.setIfInBounds_toArray, List.set_cons_zero, List.set_cons_succ]
  refine wpAnyH_take (i := 13) (v := ?_) rfl (by kernel_rfl) (by kernel_rfl) (by kernel_rfl) (fun _ _ _ h => h) (Or.inl ⟨by rfl, ?_⟩) (by assumption) ?_
  rotate_left
  · intro w hSw
    obtain ⟨q0, q2, q3, q22⟩ := VcAt.cells hSw
    go_simp
    try with_reducible rfl
  simp only [List.getElem_toArray, List.getElem_cons_succ, List.getElem_cons_zero, Act.put, List.setIfInBounds_toArray, List.set_cons_zero, List.set_cons_succ]
  refine wpAnyH_take (i := 14) (v := ?_) rfl (by kernel_rfl) (by kernel_rfl) (by kernel_rfl) (fun _ _ _ h => h) (Or.inl ⟨by rfl, ?_⟩) (by assumption) ?_
  rotate_left
  · intro w hSw
    go_simp
    try with_reducible rfl
  simp only [List.getElem_toArray, List.getElem_cons_succ, List.getElem_cons_zero, Act.put, List.setIfInBounds_toArray, List.set_cons_zero, List.set_cons_succ]
  refine wpAnyH_take (i := 15) (v := .agg (cxL g R fb rt).toArray) rfl (by kernel_rfl) (by kernel_rfl) (by kernel_rfl) (fun _ _ _ h => h) (yieldsIf_build (ps := #[(0, .int .i64 g), (1, .agg R.toArray), (2, .pointer (some ⟨fb, 0, none⟩)), (3, .int .i64 rt)]) (by rfl) (by rfl) (by first | rfl | (simp; done) | (simp; rfl) | (simp; exact ⟨rfl, rfl, rfl, rfl⟩)) (fun w _ => hbd w)) (by assumption) ?_
  simp only [List.getElem_toArray, List.getElem_cons_succ, List.getElem_cons_zero, Act.put, List.setIfInBounds_toArray, List.set_cons_zero, List.set_cons_succ]
  clear hbd
  refine wpAnyH_ready (rs := [16]) (by kernel_rfl) (by simp) ?_
  refine AllReadyH.cons rfl (fun K hK => ?_) AllReadyH.nil
  go_simp
  refine (hput _ ((Grows.refl _).drew)).mono ?_
  rintro _ w3 ⟨rfl, hg3⟩
  have hV3 := (HV.out.grows ((Grows.refl _).drew)).grows hg3
  have HG3 := Lib.hid (((Grows.refl w).drew).trans hg3)
  have hbd2 : (bad == 0) = false := by simp [hb]
  go_wp2_with fail
  refine hK.out _ _ hV3 (fun hHeld4 => ?_)
  clear hK K hput
  refine wpAnyH_take (i := 17) (v := ?_) rfl (by kernel_rfl) (by kernel_rfl) (by kernel_rfl) (fun _ _ _ h => h) (Or.inl ⟨by rfl, ?_⟩) (by assumption) ?_
  rotate_left
  · intro w hSw
    go_simp
    try with_reducible rfl
  simp only [List.getElem_toArray, List.getElem_cons_succ, List.getElem_cons_zero, Act.put, List.setIfInBounds_toArray, List.set_cons_zero, List.set_cons_succ]
  refine wpAnyH_done (by kernel_rfl) ?_ _
  clear hHeld hHeld4 hV3 HM HV c0 c22
  go_wp2_with fail
  go_ret
  exact ⟨rfl, HG3.out⟩
/-- The reference's. -/
def rfL (g ix st co : Int) (R : List Value) : List Value := [Value.int .i64 g, Value.int .i64 ix, Value.int .i64 st, Value.int .i64 co] ++ R
structure RfAt (w : World) (rb : Nat) (g ix st co : Int) (R : List Value) : Prop where
  row : Row w rb (rfL g ix st co R).toArray 50
  reg : RegL R
theorem RfAt.grows {w w' : World} {rb : Nat} {g ix st co : Int} {R : List Value} (h : RfAt w rb g ix st co R) (hg : Grows w w') : RfAt w' rb g ix st co R := ⟨h.row.grows hg, h.reg⟩
theorem RfAt.chg {S : List Nat} {w w' : World} {rb : Nat} {g ix st co : Int} {R : List Value} (h : RfAt w rb g ix st co R) (hg : Chg S w w') (hn : rb ∉ S) : RfAt w' rb g ix st co R := ⟨h.row.chg hg hn, h.reg⟩
theorem RfAt.cells {w : World} {rb : Nat} {g ix st co : Int} {R : List Value} (h : RfAt w rb g ix st co R) :
    w.cell? ⟨rb, 0, none⟩ = some (.int .i64 g) ∧ w.cell? ⟨rb, 1, none⟩ = some (.int .i64 ix) ∧ w.cell? ⟨rb, 2, none⟩ = some (.int .i64 st) ∧ w.cell? ⟨rb, 3, none⟩ = some (.int .i64 co) :=
  ⟨by rw [h.row.cell]; rfl, by rw [h.row.cell]; rfl, by rw [h.row.cell]; rfl, by rw [h.row.cell]; rfl⟩
theorem RfAt.set2 {w : World} {rb : Nat} {g ix st co : Int} {R : List Value} (h : RfAt w rb g ix st co R) (s' : Int) : RfAt (w.setCell ⟨rb, 2, none⟩ (.int .i64 s')) rb g ix s' co R :=
  ⟨by have := h.row.put 2 (.int .i64 s'); exact this, h.reg⟩
theorem RfAt.set3 {w : World} {rb : Nat} {g ix st co : Int} {R : List Value} (h : RfAt w rb g ix st co R) (s' : Int) : RfAt (w.setCell ⟨rb, 3, none⟩ (.int .i64 s')) rb g ix st s' R :=
  ⟨by have := h.row.put 3 (.int .i64 s'); exact this, h.reg⟩
theorem RfAt.range {w : World} {rb : Nat} {g ix st co : Int} {R : List Value} (h : RfAt w rb g ix st co R) : w.rangeAt rb 4 R :=
  Row.range h.row (fun j v hv => by
    have := mid_get [Value.int .i64 g, Value.int .i64 ix, Value.int .i64 st, Value.int .i64 co] R [] j v hv
    simpa [rfL] using this)
def newOk (g ix : Int) : Prop := 1 ≤ g ∧ g ≤ 16 ∧ 0 ≤ ix ∧ ix < 4
theorem vnew_bad (w : World) {g ix : Int} (pc : Int) (h : ¬ newOk g ix) :
    Calls Try.prog 9 #[.int .i64 g, .int .i64 ix, .int .u64 pc] w fun e w' => e = .returned (.tuple #[.pointer none, .int .i64 2]) ∧ w' = w := by
  by_cases h1 : g < 1
  · have d1 : decide (g < 1) = true := decide_eq_true h1
    clear h
    go_enter Try.func9, Try.ntmps9
    go_wp2_with fail
    go_ret2
    exact ⟨rfl, rfl⟩
  · have d1 : decide (g < 1) = false := decide_eq_false h1
    by_cases h2 : 16 < g
    · have d2 : decide (16 < g) = true := decide_eq_true h2
      clear h
      go_enter Try.func9, Try.ntmps9
      go_wp2_with fail
      go_ret2
      exact ⟨rfl, rfl⟩
    · have d2 : decide (16 < g) = false := decide_eq_false h2
      by_cases h3 : ix < 0
      · have d3 : decide (ix < 0) = true := decide_eq_true h3
        clear h
        go_enter Try.func9, Try.ntmps9
        go_wp2_with fail
        go_ret2
        exact ⟨rfl, rfl⟩
      · have d3 : decide (ix < 0) = false := decide_eq_false h3
        have d4 : decide (4 ≤ ix) = true := decide_eq_true (by unfold newOk at h; omega)
        clear h
        go_enter Try.func9, Try.ntmps9
        go_wp2_with fail
        go_ret2
        exact ⟨rfl, rfl⟩
theorem rnew_bad (w : World) {g ix : Int} (pc : Int) (h : ¬ newOk g ix) :
    Calls Try.prog 12 #[.int .i64 g, .int .i64 ix, .int .u64 pc] w fun e w' => e = .returned (.tuple #[.pointer none, .int .i64 2]) ∧ w' = w := by
  by_cases h1 : g < 1
  · have d1 : decide (g < 1) = true := decide_eq_true h1
    clear h
    go_enter Try.func12, Try.ntmps12
    go_wp2_with fail
    go_ret2
    exact ⟨rfl, rfl⟩
  · have d1 : decide (g < 1) = false := decide_eq_false h1
    by_cases h2 : 16 < g
    · have d2 : decide (16 < g) = true := decide_eq_true h2
      clear h
      go_enter Try.func12, Try.ntmps12
      go_wp2_with fail
      go_ret2
      exact ⟨rfl, rfl⟩
    · have d2 : decide (16 < g) = false := decide_eq_false h2
      by_cases h3 : ix < 0
      · have d3 : decide (ix < 0) = true := decide_eq_true h3
        clear h
        go_enter Try.func12, Try.ntmps12
        go_wp2_with fail
        go_ret2
        exact ⟨rfl, rfl⟩
      · have d3 : decide (ix < 0) = false := decide_eq_false h3
        have d4 : decide (4 ≤ ix) = true := decide_eq_true (by unfold newOk at h; omega)
        clear h
        go_enter Try.func12, Try.ntmps12
        go_wp2_with fail
        go_ret2
        exact ⟨rfl, rfl⟩
set_option maxRecDepth 100000 in
theorem rnew_ok (w : World) {g ix : Int} (pc : Int) (h : newOk g ix) :
    Calls Try.prog 12 #[.int .i64 g, .int .i64 ix, .int .u64 pc] w fun e w' => ∃ rb, e = .returned (.tuple #[.pointer (some ⟨rb, 0, none⟩), .int .i64 0]) ∧ RfAt w' rb g ix 1 (-1) (regs1 pc) ∧ Grows w w' ∧ w.heap.size ≤ rb := by
  obtain ⟨hg, hg2, hi, hi2⟩ := h
  have d1 : decide (g < 1) = false := decide_eq_false (by omega)
  have d2 : decide (16 < g) = false := decide_eq_false (by omega)
  have d3 : decide (ix < 0) = false := decide_eq_false (by omega)
  have d4 : decide (4 ≤ ix) = false := decide_eq_false (by omega)
  go_enter Try.func12, Try.ntmps12
  go_wp2_with fail
  go_ret2
  exact ⟨w.heap.size, rfl, ⟨Row.new_at _ _ _ rfl, regs1_ok pc⟩, (Grows.refl _).alloc _, Nat.le_refl _⟩
theorem names_ok (w : World) : Calls Try.prog 13 #[] w fun r w' => r = .returned (.bool true) ∧ w' = w := by
  go_enter Try.func13, Try.ntmps13
  go_wp2_with fail
  go_ret
  exact ⟨rfl, rfl⟩
/-- A turn of the reference's state, or none. -/
def RTurned (w w' : World) (rb : Nat) (g ix s co z : Int) (R : List Value) (hit : Prop) [Decidable hit] (e : Ending) : Prop :=
  e = .returned (.int .i64 (if hit then 0 else 21)) ∧ RfAt w' rb g ix (if hit then z else s) co R ∧ Chg [rb] w w'
theorem rturned_miss {w : World} {rb : Nat} {g ix s co z : Int} {R : List Value} {hit : Prop} [Decidable hit] {e : Ending} (h : RfAt w rb g ix s co R) (hn : ¬ hit) (he : e = .returned (.int .i64 21)) : RTurned w w rb g ix s co z R hit e :=
  ⟨by rw [if_neg hn]; exact he, by rw [if_neg hn]; exact h, Chg.refl _ _⟩
theorem rturned_hit {w : World} {rb : Nat} {g ix s co z : Int} {R : List Value} {hit : Prop} [Decidable hit] {e : Ending} (h : RfAt w rb g ix s co R) (hn : hit) (he : e = .returned (.int .i64 0)) : RTurned w (w.setCell ⟨rb, 2, none⟩ (.int .i64 z)) rb g ix s co z R hit e :=
  ⟨by rw [if_pos hn]; exact he, by rw [if_pos hn]; exact h.set2 z, (Chg.refl _ _).setCell (Or.inl (by simp)) _ _⟩
theorem rset0 {w : World} {rb : Nat} {g ix s co : Int} {R : List Value} (h : RfAt w rb g ix s co R) :
    Calls Try.prog 15 #[.pointer (some ⟨rb, 0, none⟩), .int .i64 0] w fun e w' => RTurned w w' rb g ix s co 3 R (s = 1) e := by
  obtain ⟨c0, c1, c2, c3⟩ := h.cells
  have f2 := h.row.frozen 2
  by_cases h1 : s = 1
  · subst h1
    have HA := Lib.hid h
    clear h
    go_enter Try.func15, Try.ntmps15
    go_wp2_with fail
    go_ret
    first | exact rturned_hit HA.out (by decide) rfl | exact rturned_miss HA.out (by decide) rfl
  · by_cases h3 : s = 3
    · subst h3
      have HA := Lib.hid h
      clear h h1
      go_enter Try.func15, Try.ntmps15
      go_wp2_with fail
      go_ret
      first | exact rturned_hit HA.out (by decide) rfl | exact rturned_miss HA.out (by decide) rfl
    · have e1 : (s == 1) = false := by simp [h1]
      have e3 : (s == 3) = false := by simp [h3]
      have HA := Lib.hid h
      have HN := Lib.hid (And.intro h1 h3)
      clear h h1 h3
      go_enter Try.func15, Try.ntmps15
      go_wp2_with fail
      go_ret
      exact rturned_miss HA.out (by have := HN.out; omega) rfl
theorem rset1 {w : World} {rb : Nat} {g ix s co : Int} {R : List Value} (h : RfAt w rb g ix s co R) :
    Calls Try.prog 15 #[.pointer (some ⟨rb, 0, none⟩), .int .i64 1] w fun e w' => RTurned w w' rb g ix s co 1 R (s = 3) e := by
  obtain ⟨c0, c1, c2, c3⟩ := h.cells
  have f2 := h.row.frozen 2
  by_cases h1 : s = 1
  · subst h1
    have HA := Lib.hid h
    clear h
    go_enter Try.func15, Try.ntmps15
    go_wp2_with fail
    go_ret
    first | exact rturned_hit HA.out (by decide) rfl | exact rturned_miss HA.out (by decide) rfl
  · by_cases h3 : s = 3
    · subst h3
      have HA := Lib.hid h
      clear h h1
      go_enter Try.func15, Try.ntmps15
      go_wp2_with fail
      go_ret
      first | exact rturned_hit HA.out (by decide) rfl | exact rturned_miss HA.out (by decide) rfl
    · have e1 : (s == 1) = false := by simp [h1]
      have e3 : (s == 3) = false := by simp [h3]
      have HA := Lib.hid h
      have HN := Lib.hid (And.intro h1 h3)
      clear h h1 h3
      go_enter Try.func15, Try.ntmps15
      go_wp2_with fail
      go_ret
      exact rturned_miss HA.out (by have := HN.out; omega) rfl
theorem rset2 {w : World} {rb : Nat} {g ix s co : Int} {R : List Value} (h : RfAt w rb g ix s co R) :
    Calls Try.prog 15 #[.pointer (some ⟨rb, 0, none⟩), .int .i64 2] w fun e w' => RTurned w w' rb g ix s co 4 R (s = 1 ∨ s = 3) e := by
  obtain ⟨c0, c1, c2, c3⟩ := h.cells
  have f2 := h.row.frozen 2
  by_cases h1 : s = 1
  · subst h1
    have HA := Lib.hid h
    clear h
    go_enter Try.func15, Try.ntmps15
    go_wp2_with fail
    go_ret
    first | exact rturned_hit HA.out (by decide) rfl | exact rturned_miss HA.out (by decide) rfl
  · by_cases h3 : s = 3
    · subst h3
      have HA := Lib.hid h
      clear h h1
      go_enter Try.func15, Try.ntmps15
      go_wp2_with fail
      go_ret
      first | exact rturned_hit HA.out (by decide) rfl | exact rturned_miss HA.out (by decide) rfl
    · have e1 : (s == 1) = false := by simp [h1]
      have e3 : (s == 3) = false := by simp [h3]
      have HA := Lib.hid h
      have HN := Lib.hid (And.intro h1 h3)
      clear h h1 h3
      go_enter Try.func15, Try.ntmps15
      go_wp2_with fail
      go_ret
      exact rturned_miss HA.out (by have := HN.out; omega) rfl
end Go.Proofs.Ytilefidnjjbboaa
