/- What the functions of the package machine compute: Cores, of, Put, Get, Take. -/
import Derived.Test.YtilefidnjjbboaaMach
import Derived.Deep.RegionHeld3
import Derived.BigRegion
namespace Go.Proofs.Ytilefidnjjbboaa
open Go Go.RowKit
set_option linter.unusedSimpArgs false
set_option linter.unusedVariables false
/-- A context. -/
def cxL (g : Int) (R : List Value) (fb : Nat) (rt : Int) : List Value := [Value.int .i64 g] ++ R ++ [Value.pointer (some ⟨fb, 0, none⟩), Value.int .i64 rt]
/-- Eighteen numbers. -/
def RegL (R : List Value) : Prop := ∃ x0 x1 x2 x3 x4 x5 x6 x7 x8 x9 x10 x11 x12 x13 x14 x15 pc m : Int, R = [.int .u64 x0, .int .u64 x1, .int .u64 x2, .int .u64 x3, .int .u64 x4, .int .u64 x5, .int .u64 x6, .int .u64 x7, .int .u64 x8, .int .u64 x9, .int .u64 x10, .int .u64 x11, .int .u64 x12, .int .u64 x13, .int .u64 x14, .int .u64 x15, .int .u64 pc, .int .i64 m]
theorem RegL.len {R : List Value} (h : RegL R) : R.length = 18 := by
  obtain ⟨x0, x1, x2, x3, x4, x5, x6, x7, x8, x9, x10, x11, x12, x13, x14, x15, pc, m, rfl⟩ := h; rfl
theorem cxL_len {g : Int} {R : List Value} {fb : Nat} {rt : Int} (h : RegL R) : (cxL g R fb rt).length = 21 := by simp [cxL, h.len]
theorem cxL_one {g : Int} {R : List Value} {fb : Nat} {rt : Int} (h : RegL R) : (cxL g R fb rt).toArray.all (·.oneCell') = true := by
  obtain ⟨x0, x1, x2, x3, x4, x5, x6, x7, x8, x9, x10, x11, x12, x13, x14, x15, pc, m, rfl⟩ := h; simp [cxL, Value.oneCell']
theorem cxL_at {g : Int} {R : List Value} {fb : Nat} {rt : Int} (h : RegL R) : (cxL g R fb rt).toArray[0]? = some (.int .i64 g) ∧ (cxL g R fb rt).toArray[19]? = some (.pointer (some ⟨fb, 0, none⟩)) ∧ (cxL g R fb rt).toArray[20]? = some (.int .i64 rt) := by
  obtain ⟨x0, x1, x2, x3, x4, x5, x6, x7, x8, x9, x10, x11, x12, x13, x14, x15, pc, m, rfl⟩ := h; exact ⟨rfl, rfl, rfl⟩
theorem row_type {w : World} {b : Nat} {c c' : Array Value} {t t' : TypeId} (h : Row w b c t) (h' : Row w b c' t') : t = t' := by
  have h1 : w.heap[b]? = some (.cells c t (0, 0)) := h
  have h2 : w.heap[b]? = some (.cells c' t' (0, 0)) := h'
  rw [h1] at h2
  simp at h2
  exact h2.2
/-- b is a row of another type than the cores' pointers. -/
def NoPtr (w : World) (b : Nat) : Prop := ∃ c t, Row w b c t ∧ t ≠ 83
theorem MachAt.chg {S : List Nat} {w w' : World} {pm me N F : Nat} {cb : Nat → Nat} {st : Nat → Option (List Value)} (h : MachAt w pm me N F cb st) (hc : Chg S w w') (h1 : pm ∉ S ∧ me ∉ S ∧ ∀ i, i < N → cb i ∉ S) (h2 : ∀ b ∈ S, NoPtr w b) : MachAt w' pm me N F cb st := by
  obtain ⟨qs, cap, cur, hr, hq, hx⟩ := h.hd
  refine ⟨⟨qs, cap, cur, hr.chg hc h1.1, hq.chg hc (fun hm => ?_), hx⟩, h.mem.chg hc h1.2.1, fun i hi => (h.cores i hi).chg hc (h1.2.2 i hi), h.inj, h.ne⟩
  obtain ⟨c, t, hr2, ht⟩ := h2 qs hm
  exact ht (row_type hr2 hq)
theorem MachAt.grows {w w' : World} {pm me N F : Nat} {cb : Nat → Nat} {st : Nat → Option (List Value)} (h : MachAt w pm me N F cb st) (hg : Grows w w') : MachAt w' pm me N F cb st :=
  h.chg (S := []) (Chg.of_grows hg) (by simp) (by simp)
theorem MachAt.put {w w' : World} {pm me N F c : Nat} {cb : Nat → Nat} {st : Nat → Option (List Value)} {s : Option (List Value)} (h : MachAt w pm me N F cb st) (hc : Chg [cb c] w w') (hcN : c < N) (hn : CoreAt w' (cb c) me pm s) : MachAt w' pm me N F cb (fun i => if i = c then s else st i) := by
  obtain ⟨qs, cap, cur, hr, hq, hx⟩ := h.hd
  have hne := h.ne c hcN
  refine ⟨⟨qs, cap, cur, hr.chg hc (by simp; omega), hq.chg hc (fun hm => ?_), hx⟩, h.mem.chg hc (by simp; omega), fun i hi => ?_, h.inj, h.ne⟩
  · obtain ⟨_, _, _, _, hr2⟩ := h.cores c hcN
    have e : qs = cb c := by simpa using hm
    rw [← e] at hr2
    exact absurd (row_type hr2 hq) (by decide)
  · by_cases e : i = c
    · subst e; rw [if_pos rfl]; exact hn
    · rw [if_neg e]
      exact (h.cores i hi).chg hc (by simp; exact fun hh => e (h.inj i c hi hcN hh))
theorem cores_ok {w : World} {pm me N F : Nat} {cb : Nat → Nat} {st : Nat → Option (List Value)} (h : MachAt w pm me N F cb st) :
    Calls Try.prog 31 #[.pointer (some ⟨pm, 0, none⟩)] w fun r w' => r = .returned (.int .i64 N) ∧ w' = w := by
  obtain ⟨qs, cap, cur, hr, hq, hx⟩ := h.hd
  have p1 : w.cell? ⟨pm, 1, none⟩ = some (.slice (some ⟨qs, 0, none⟩) N cap) := hr.cell 1
  clear h hx hq hr
  go_enter Try.func31, Try.ntmps31
  go_wp2_with fail
  go_ret
  exact ⟨rfl, rfl⟩
theorem cores_nil (w : World) :
    Calls Try.prog 31 #[.pointer none] w fun r w' => r = .returned (.int .i64 0) ∧ w' = w := by
  go_enter Try.func31, Try.ntmps31
  go_wp2_with fail
  go_ret
  exact ⟨rfl, rfl⟩
theorem of_ok {w : World} {pm me N F c : Nat} {cb : Nat → Nat} {st : Nat → Option (List Value)} (h : MachAt w pm me N F cb st) (hN : N ≤ 8) (hc : c < N) :
    Calls Try.prog 39 #[.pointer (some ⟨pm, 0, none⟩), .int .i64 c] w fun r w' => r = .returned (.tuple #[.pointer (some ⟨cb c, 0, none⟩), .int .i64 0]) ∧ w' = w := by
  have hcs := cores_ok h
  obtain ⟨qs, cap, cur, hr, hq, hx⟩ := h.hd
  have p1 : w.cell? ⟨pm, 1, none⟩ = some (.slice (some ⟨qs, 0, none⟩) N cap) := hr.cell 1
  have hxc : w.cell? ⟨qs, c, none⟩ = some (.pointer (some ⟨cb c, 0, none⟩)) := by rw [hq.cell]; exact hx c hc
  have hn0 : ((N : Int) == 0) = false := by simp; omega
  clear h hx hq hr
  go_enter Try.func39, Try.ntmps39
  go_wp2_with fail
  refine (hcs).mono ?_
  rintro _ _ ⟨rfl, hw⟩
  rw [hw]
  clear hw
  go_wp2_with fail
  go_ret2
  exact ⟨rfl, rfl⟩
theorem of_bad {w : World} {pm me N F : Nat} {c : Int} {cb : Nat → Nat} {st : Nat → Option (List Value)} (h : MachAt w pm me N F cb st) (hN1 : 1 ≤ N) (hN : N ≤ 8) (hc : c < 0 ∨ (N : Int) ≤ c) :
    Calls Try.prog 39 #[.pointer (some ⟨pm, 0, none⟩), .int .i64 c] w fun r w' => r = .returned (.tuple #[.pointer none, .int .i64 2]) ∧ w' = w := by
  have hcs := cores_ok h
  obtain ⟨qs, cap, cur, hr, hq, hx⟩ := h.hd
  have p1 : w.cell? ⟨pm, 1, none⟩ = some (.slice (some ⟨qs, 0, none⟩) N cap) := hr.cell 1
  have hn0 : ((N : Int) == 0) = false := by simp; omega
  clear h hx hq hr
  by_cases h0 : c < 0
  · clear hc
    go_enter Try.func39, Try.ntmps39
    go_wp2_with fail
    refine (hcs).mono ?_
    rintro _ _ ⟨rfl, hw⟩
    rw [hw]
    clear hw
    go_wp2_with fail
    go_ret2
    exact ⟨rfl, rfl⟩
  · have h1 : (N : Int) ≤ c := by rcases hc with hc | hc; exact absurd hc h0; exact hc
    clear hc
    go_enter Try.func39, Try.ntmps39
    go_wp2_with fail
    refine (hcs).mono ?_
    rintro _ _ ⟨rfl, hw⟩
    rw [hw]
    clear hw
    go_wp2_with fail
    go_ret2
    exact ⟨rfl, rfl⟩
def fileZ : Array Value := #[.bool false, .int .u64 0, .int .u64 0, .int .u64 0, .int .u64 0, .int .u64 0, .int .u64 0, .int .u64 0, .int .u64 0, .int .u64 0, .int .u64 0, .int .u64 0, .int .u64 0]
theorem clone_ok {b : Nat} {r : Nat → Int} {W : World} (h : File W b r) :
    Calls Try.prog 40 #[.pointer (some ⟨b, 0, none⟩)] W fun e w' => ∃ x, e = .returned (.pointer (some ⟨x, 0, none⟩)) ∧ Grows W w' := by
  have hno := none_any h
  have hr : Row W b (fileA r) 110 := h
  go_enter Try.func40, Try.ntmps40
  go_wp2_with fail
  refine (hno).mono ?_
  rintro _ _ ⟨rfl, hw⟩
  rw [hw]
  clear hw
  have hz := Row.new W fileZ 110
  have hone : (fileA r).all (·.oneCell') = true := by simp [fileA, Value.oneCell']
  have hg : Grows W ((W.alloc (Obj.cells fileZ 110)).setRow W.heap.size (fileA r)) := grows_setRow ((Grows.refl _).alloc _) (Nat.le_refl _) _
  have HG := Lib.hid hg
  clear hg h
  go_wp2_with (first
    | (refine wpList_load_row (by rfl) 110 _ (by rfl) b (by rfl) 110 (fileA r) (0, 0) _ (by exact hr) Try.underlying110 rfl (by kernel_rfl) ?_)
    | (refine wpList_store_row (by rfl) 110 _ _ (by rfl) W.heap.size (fileA r) (by rfl) (by rfl) 110 _ (by exact hz) (by kernel_rfl) (by rfl) hone ?_))
  go_ret
  exact ⟨_, rfl, HG.out⟩
theorem mnone_ok {w : World} {me F : Nat} (h : MemHd w me F) :
    Calls Try.prog 44 #[.pointer (some ⟨me, 0, none⟩)] w fun r w' => r = .returned (.bool false) ∧ w' = w := by
  obtain ⟨q, hr⟩ := h
  have c0 : w.cell? ⟨me, 0, none⟩ = some (.slice (some ⟨q, 0, none⟩) (F * 256) (F * 256)) := hr.cell 0
  have e0 : ∀ w, (binOp .eql 101 (.slice (some ⟨q, 0, none⟩) (F * 256) (F * 256)) (.slice none 0 0)).run Try.prog w = .ok (.bool false) w := fun w => Lib.run_eql_slice_nil w 101 5 _ _ _ 0 0 Try.underlying101
  go_enter Try.func44, Try.ntmps44
  go_wp2_with fail
  go_ret
  exact ⟨rfl, rfl⟩
theorem frames_ok {w : World} {me F : Nat} (h : MemHd w me F) (hF : F ≤ 65536) :
    Calls Try.prog 41 #[.pointer (some ⟨me, 0, none⟩)] w fun r w' => r = .returned (.int .i64 F) ∧ w' = w := by
  have hno := mnone_ok h
  obtain ⟨q, hr⟩ := h
  have c0 : w.cell? ⟨me, 0, none⟩ = some (.slice (some ⟨q, 0, none⟩) (F * 256) (F * 256)) := hr.cell 0
  go_enter Try.func41, Try.ntmps41
  go_wp2_with fail
  refine (hno).mono ?_
  rintro _ _ ⟨rfl, hw⟩
  rw [hw]
  clear hw
  go_wp2_with fail
  go_ret
  exact ⟨rfl, rfl⟩
theorem coreA_at {me pm kp km : Nat} {cx : List Value} {is hs : Bool} {ha : Int} (h : cx.length = 21) : (coreA me pm cx is kp km hs ha)[23]? = some (.bool is) ∧ (coreA me pm cx is kp km hs ha)[26]? = some (.bool hs) ∧ (coreA me pm cx is kp km hs ha)[27]? = some (.int .u64 ha) ∧ (coreA me pm cx is kp km hs ha).size = 28 := by
  match cx, h with
  | [a0, a1, a2, a3, a4, a5, a6, a7, a8, a9, a10, a11, a12, a13, a14, a15, a16, a17, a18, a19, a20], _ => exact ⟨rfl, rfl, rfl, rfl⟩
theorem coreA_set {me pm kp km : Nat} {cx : List Value} {is is' hs : Bool} {ha : Int} (h : cx.length = 21) : (((coreA me pm cx is kp km hs ha).setIfInBounds 23 (.bool is')).setIfInBounds 26 (.bool false)).setIfInBounds 27 (.int .u64 0) = coreA me pm cx is' kp km false 0 := by
  match cx, h with
  | [a0, a1, a2, a3, a4, a5, a6, a7, a8, a9, a10, a11, a12, a13, a14, a15, a16, a17, a18, a19, a20], _ => rfl
theorem coreA_puts {me pm kp km : Nat} {cx cx' : List Value} {is hs : Bool} {ha : Int} (h : cx'.length = cx.length) : putA (coreA me pm cx is kp km hs ha) 2 cx' = coreA me pm cx' is kp km hs ha :=
  putA_mid [Value.pointer (some ⟨me, 0, none⟩), Value.pointer (some ⟨pm, 0, none⟩)] cx _ cx' h
theorem cx0_len : cx0.length = 21 := rfl
theorem put_keep {w : World} {b5 pm me N F fb : Nat} {g rt : Int} {R : List Value} {cb : Nat → Nat} {st : Nat → Option (List Value)} {t : TypeId} (h5 : Row w b5 (cxL g R fb rt).toArray t) (hR : RegL R) (hM : MachAt w pm me N F cb st) :
    w.cell? ⟨b5, 0, none⟩ = some (.int .i64 g) ∧ w.cell? ⟨b5, 19, none⟩ = some (.pointer (some ⟨fb, 0, none⟩)) ∧ w.cell? ⟨b5, 20, none⟩ = some (.int .i64 rt) ∧ w.cell? ⟨pm, 0, none⟩ = some (.pointer (some ⟨me, 0, none⟩)) := by
  obtain ⟨h1, h2, h3⟩ := cxL_at (g := g) (fb := fb) (rt := rt) hR
  obtain ⟨qs, cap, cur, hr, hq, hx⟩ := hM.hd
  exact ⟨by rw [h5.cell]; exact h1, by rw [h5.cell]; exact h2, by rw [h5.cell]; exact h3, hr.cell 0⟩
set_option maxRecDepth 100000 in
set_option maxHeartbeats 4000000 in
theorem put_ok {w : World} {pm me N F c : Nat} {cb : Nat → Nat} {st : Nat → Option (List Value)} (h : MachAt w pm me N F cb st) (hN : N ≤ 8) (hF : F ≤ 65536) (hc : c < N) (hst : st c = none) {g rt : Int} {fb : Nat} {R : List Value} {r : Nat → Int} (hR : RegL R) (hf : File w fb r) (hg : 0 ≤ g) (hrt : 0 ≤ rt) (hrF : rt < F) :
    Calls Try.prog 32 #[.pointer (some ⟨pm, 0, none⟩), .int .i64 c, .agg (cxL g R fb rt).toArray] w fun e w' => e = .returned (.int .i64 0) ∧ MachAt w' pm me N F cb (fun i => if i = c then some (cxL g R fb rt) else st i) ∧ Chg [cb c] w w' := by
  go_enter Try.func32, Try.ntmps32
  go_wp2_with fail
  obtain ⟨W1, hW1⟩ : ∃ W1, W1 = w.alloc (Obj.cells (cxL g R fb rt).toArray 61) := ⟨_, rfl⟩
  obtain ⟨b5, hb5⟩ : ∃ b, b = w.heap.size := ⟨_, rfl⟩
  rw [← hW1, ← hb5]
  have hr5 : Row W1 b5 (cxL g R fb rt).toArray 61 := by rw [hW1]; exact Row.new_at _ _ _ hb5
  have hg1 : Grows w W1 := by rw [hW1]; exact (Grows.refl _).alloc _
  have HM1 := Lib.hid (h.grows hg1)
  have HF1 : Hid (File W1 fb r) := Lib.hid (Row.grows hf hg1)
  have HR5 := Lib.hid hr5
  have HG1 := Lib.hid hg1
  have hof := of_ok HM1.out hN hc
  have d1 : decide (g < 0) = false := decide_eq_false (by omega)
  have d2 : decide (rt < 0) = false := decide_eq_false (by omega)
  have d3 : decide ((F : Int) ≤ rt) = false := decide_eq_false (by omega)
  clear hW1 hb5 hr5 hg1 h hf
  refine hof.mono ?_
  rintro _ _ ⟨rfl, hw⟩
  rw [hw]
  clear hw hof
  go_wp2_with fail
  go_region_held3 (fun w' => w'.cell? ⟨b5, 0, none⟩ = some (.int .i64 g) ∧ w'.cell? ⟨b5, 19, none⟩ = some (.pointer (some ⟨fb, 0, none⟩)) ∧ w'.cell? ⟨b5, 20, none⟩ = some (.int .i64 rt) ∧ w'.cell? ⟨pm, 0, none⟩ = some (.pointer (some ⟨me, 0, none⟩))) (first
    | exact put_keep HR3.out hR HM3.out
    | exact put_keep (HR5.out.grows ((Grows.refl _).drew)) hR (HM1.out.grows ((Grows.refl _).drew)))
    (first
    | (go_at_call 40; refine (clone_ok (r := r) (Row.grows HF1.out ((Grows.refl _).drew))).mono ?_; rintro _ w3 ⟨x3, rfl, hg3⟩
       have HR3 := Lib.hid ((HR5.out.grows ((Grows.refl _).drew)).grows hg3)
       have HM3 := Lib.hid ((HM1.out.grows ((Grows.refl _).drew)).grows hg3)
       have HG3 := Lib.hid ((HG1.out.drew).trans hg3)
       clear hg3)
    | (go_at_call 41; refine (frames_ok HM3.out.mem hF).mono ?_; rintro _ _ ⟨rfl, hw⟩; rw [hw]; clear hw))
  obtain ⟨kp, km, hs, ha, hrc⟩ := HM3.out.cores c hc
  rw [hst] at hrc
  have hrc : Row w3 (cb c) (coreA me pm cx0 false kp km hs ha) 88 := hrc
  obtain ⟨q1, q2, q3, q4⟩ := coreA_at (me := me) (pm := pm) (kp := kp) (km := km) (is := false) (hs := hs) (ha := ha) cx0_len
  have c23 : w3.cell? ⟨cb c, 23, none⟩ = some (.bool false) := by rw [hrc.cell]; exact q1
  have hcl := cxL_len (g := g) (fb := fb) (rt := rt) hR
  obtain ⟨W4, hW4⟩ : ∃ W4, W4 = w3.setCells (cb c) 2 (cxL g R fb rt).toArray.toList := ⟨_, rfl⟩
  have HW4 := Lib.hid hW4.symm
  have hr4 : Row W4 (cb c) (coreA me pm (cxL g R fb rt) false kp km hs ha) 88 := by
    rw [hW4, ← coreA_puts (cx := cx0) (by rw [hcl]; rfl)]
    exact Row.puts _ _ _ _ hrc
  obtain ⟨k1, k2, k3, k4⟩ := coreA_at (me := me) (pm := pm) (kp := kp) (km := km) (is := false) (hs := hs) (ha := ha) hcl
  have e23 : W4.cell? ⟨cb c, 23, none⟩ = some (.bool false) := by rw [hr4.cell]; exact k1
  have e26 : W4.cell? ⟨cb c, 26, none⟩ = some (.bool hs) := by rw [hr4.cell]; exact k2
  have e27 : W4.cell? ⟨cb c, 27, none⟩ = some (.int .u64 ha) := by rw [hr4.cell]; exact k3
  have f23 := hr4.frozen 23
  have f26 := hr4.frozen 26
  have f27 := hr4.frozen 27
  have HTH := Lib.hid (Row.thereAt hrc (o := 2) (n := (cxL g R fb rt).toArray.size) (by rw [q4, List.size_toArray, hcl]; omega))
  have HI := Lib.hid (show (Try.prog.info? 61).map (·.size) = some (cxL g R fb rt).toArray.size by rw [List.size_toArray, hcl]; kernel_rfl)
  have HO := Lib.hid (cxL_one (g := g) (fb := fb) (rt := rt) hR)
  have hr7 := ((hr4.put 23 (.bool true)).put 26 (.bool false)).put 27 (.int .u64 0)
  rw [coreA_set hcl] at hr7
  have HR7 := Lib.hid hr7
  have hc34 : Chg [cb c] w W4 := by
    rw [hW4]
    exact Chg.setCells (Or.inl (by simp)) _ _ _ (Chg.of_grows HG3.out)
  have HC7 := Lib.hid (((hc34.setCell (b := cb c) (Or.inl (by simp)) 23 (.bool true)).setCell (b := cb c) (Or.inl (by simp)) 26 (.bool false)).setCell (b := cb c) (Or.inl (by simp)) 27 (.int .u64 0))
  have hcm : Chg [cb c] w3 W4 := by
    rw [hW4]
    exact Chg.setCells (Or.inl (by simp)) _ _ _ (Chg.refl _ _)
  have HM7 := Lib.hid (HM3.out.put (((hcm.setCell (b := cb c) (Or.inl (by simp)) 23 (.bool true)).setCell (b := cb c) (Or.inl (by simp)) 26 (.bool false)).setCell (b := cb c) (Or.inl (by simp)) 27 (.int .u64 0)) hc (s := some (cxL g R fb rt)) ⟨kp, km, false, 0, hr7⟩)
  clear hr7 hc34 hcm hr4 hW4 k1 k2 k3 k4 q1 q2 q3 q4 hrc hst
  go_wp2_with (first
    | (refine wpList_load_row (by rfl) 61 _ (by rfl) b5 (by rfl) 61 (cxL g R fb rt).toArray (0, 0) _ (by exact HR3.out) Try.underlying61 rfl HI.out ?_)
    | (refine wpList_store_mid (by rfl) 61 _ _ (by rfl) (cb c) 2 (cxL g R fb rt).toArray (by rfl) (by rfl) HTH.out HI.out HO.out ?_; rw [HW4.out]))
  go_ret
  exact ⟨rfl, HM7.out, HC7.out⟩
end Go.Proofs.Ytilefidnjjbboaa
