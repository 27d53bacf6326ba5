/- The package stage: take, New, and what is told of open tables at a page that is none. -/
import Derived.Test.YtlchlklbjocliaaDoorStN
import Derived.Test.YtlchlklbjocliaaDoorFrN
import Derived.Carry
namespace Go.Proofs.YtlchlklbjocliaaDoor
open Go Go.RowKit
set_option linter.unusedSimpArgs false
set_option linter.unusedVariables false
set_option maxRecDepth 100000
def tbL (pm pf : Nat) (g root : Int) (op : Bool) (bl : Nat) (c : Nat → Int) : Array Value := #[.pointer (some ⟨pm, 0, none⟩), .pointer (some ⟨pf, 0, none⟩), .int .i64 g, .int .i64 root, .bool op, .map (some bl), .int .i64 (c 0), .int .i64 (c 1), .int .i64 (c 2), .int .i64 (c 3), .int .i64 (c 4), .int .i64 (c 5), .int .i64 (c 6), .int .i64 (c 7), .int .i64 (c 8), .int .i64 (c 9), .int .i64 (c 10), .int .i64 (c 11), .int .i64 (c 12), .int .i64 (c 13), .int .i64 (c 14), .int .i64 (c 15), .int .i64 (c 16), .int .i64 (c 17), .int .i64 (c 18), .int .i64 (c 19), .int .i64 (c 20), .int .i64 (c 21), .int .i64 (c 22), .int .i64 (c 23), .int .i64 (c 24), .int .i64 (c 25), .int .i64 (c 26), .int .i64 (c 27), .int .i64 (c 28), .int .i64 (c 29), .int .i64 (c 30), .int .i64 (c 31)]
structure TbAt (w : World) (tb pm pf bl : Nat) (g root : Int) (op : Bool) (c : Nat → Int) : Prop where
  row : Row w tb (tbL pm pf g root op bl c) 32
theorem TbAt.grows {w w' : World} {tb pm pf bl : Nat} {g root : Int} {op : Bool} {c : Nat → Int} (h : TbAt w tb pm pf bl g root op c) (hg : Grows w w') : TbAt w' tb pm pf bl g root op c := ⟨h.row.grows hg⟩
theorem TbAt.chg {S : List Nat} {w w' : World} {tb pm pf bl : Nat} {g root : Int} {op : Bool} {c : Nat → Int} (h : TbAt w tb pm pf bl g root op c) (hc : Chg S w w') (hn : tb ∉ S) : TbAt w' tb pm pf bl g root op c := ⟨h.row.chg hc hn⟩
theorem TbAt.cells {w : World} {tb pm pf bl : Nat} {g root : Int} {op : Bool} {c : Nat → Int} (h : TbAt w tb pm pf bl g root op c) :
    w.cell? ⟨tb, 0, none⟩ = some (.pointer (some ⟨pm, 0, none⟩)) ∧ w.cell? ⟨tb, 1, none⟩ = some (.pointer (some ⟨pf, 0, none⟩)) ∧ w.cell? ⟨tb, 2, none⟩ = some (.int .i64 g) ∧ w.cell? ⟨tb, 3, none⟩ = some (.int .i64 root) ∧ w.cell? ⟨tb, 4, none⟩ = some (.bool op) ∧ w.cell? ⟨tb, 5, none⟩ = some (.map (some bl)) ∧ tb < w.heap.size :=
  ⟨by rw [h.row.cell]; rfl, by rw [h.row.cell]; rfl, by rw [h.row.cell]; rfl, by rw [h.row.cell]; rfl, by rw [h.row.cell]; rfl, by rw [h.row.cell]; rfl, h.row.lt⟩
set_option maxHeartbeats 4000000 in
theorem take_any {w : World} {p q N fp bt bw n first low : Nat} {B T O : Nat → Nat} {quo : Nat → Int} (hM : Mem w p q N B) (h : FrAt w fp bt bw n first T O quo low) (hnN : n ≤ N / 256) (hq : (ownC n T O 0 : Int) < quo 0) (hap : p ≠ fp ∧ p ≠ bt ∧ p ≠ bw ∧ q ≠ fp ∧ q ≠ bt ∧ q ≠ bw) :
    Calls Tryd.prog 52 #[.pointer (some ⟨p, 0, none⟩), .pointer (some ⟨fp, 0, none⟩)] w fun r w' => ((∃ k, k < n ∧ (∀ i, i < k → 0 < T i) ∧ T k = 0 ∧ first ≤ k ∧ r = .returned (.tuple #[.int .i64 k, .int .i64 0]) ∧ FrAt w' fp bt bw n first (upF T k 1) (upF O k 0) quo k ∧ Mem w' p q N (putB B (k * 256) (List.replicate 256 0))) ∨
      ((∀ i, i < n → 0 < T i) ∧ r = .returned (.tuple #[.int .i64 0, .int .i64 20]) ∧ FrAt w' fp bt bw n first T O quo n ∧ Mem w' p q N B)) ∧ Chg [fp, bt, bw, q] w w' := by
  have hal := Alloc_any h (o := 0) (by omega) hq
  go_enter Tryd.func52, Tryd.ntmps52
  go_wp2_with fail
  refine hal.mono ?_
  rintro _ w1 ⟨hal1 | hal1, hc1⟩
  · obtain ⟨k, hk, hlow, hT, hfk, rfl, hF1⟩ := hal1
    have hM1 : Mem w1 p q N B := MemAt.chg hM hc1 (by simp; omega) (by simp; omega)
    have hcl := Clear_ok hM1 k (by omega)
    have HF1 := Lib.hid hF1
    have HC1 := Lib.hid hc1
    have HK := Lib.hid (show k < n ∧ (∀ i, i < k → 0 < T i) ∧ T k = 0 ∧ first ≤ k from ⟨hk, hlow, hT, hfk⟩)
    clear hal hM h hnN hq hk hlow hT hfk hF1 hc1 hM1
    go_wp2_with fail
    refine hcl.mono ?_
    rintro _ w2 ⟨rfl, hM2, hc2⟩
    have hF2 := HF1.out.chg hc2 (by simp; omega)
    have HF2 := Lib.hid hF2
    have HM2 := Lib.hid hM2
    have HC2 := Lib.hid ((HC1.out.weaken (T := [fp, bt, bw, q]) (by simp)).trans (hc2.weaken (T := [fp, bt, bw, q]) (by simp)))
    clear hcl hF2 hM2 hc2
    go_wp2_with fail
    go_ret2
    exact ⟨Or.inl ⟨k, HK.out.1, HK.out.2.1, HK.out.2.2.1, HK.out.2.2.2, rfl, HF2.out, HM2.out⟩, HC2.out⟩
  · obtain ⟨hall, rfl, hF1⟩ := hal1
    have hM1 : Mem w1 p q N B := MemAt.chg hM hc1 (by simp; omega) (by simp; omega)
    have HF1 := Lib.hid hF1
    have HM1 := Lib.hid hM1
    have HA := Lib.hid hall
    have HC1 := Lib.hid (hc1.weaken (T := [fp, bt, bw, q]) (by simp))
    clear hal hM h hnN hq hF1 hc1 hM1 hall
    go_wp2_with fail
    go_ret2
    exact ⟨Or.inr ⟨HA.out, rfl, HF1.out, HM1.out⟩, HC1.out⟩
set_option maxHeartbeats 4000000 in
theorem snew_ok {w : World} {p q N fp bt bw n first low : Nat} {B T O : Nat → Nat} {quo : Nat → Int} (hM : Mem w p q N B) (h : FrAt w fp bt bw n first T O quo low) (hnN : n ≤ N / 256) (hN : N / 256 ≠ 0) (hq : (ownC n T O 0 : Int) < quo 0) (hap : p ≠ fp ∧ p ≠ bt ∧ p ≠ bw ∧ q ≠ fp ∧ q ≠ bt ∧ q ≠ bw) {g : Int} (hg1 : 1 ≤ g) (hg2 : g ≤ 16) (hfr : ∃ i, i < n ∧ T i = 0) :
    Calls Tryd.prog 21 #[.pointer (some ⟨p, 0, none⟩), .pointer (some ⟨fp, 0, none⟩), .int .i64 g] w fun r w' => ∃ tb bl k, r = .returned (.tuple #[.pointer (some ⟨tb, 0, none⟩), .int .i64 0]) ∧ k < n ∧ T k = 0 ∧ TbAt w' tb p fp bl g k true (fun _ => 0) ∧ IMap Tryd.prog 3 3 w' bl 0 (fun _ => none) ∧ w.heap.size ≤ tb ∧ w.heap.size ≤ bl ∧ tb ≠ bl ∧
      FrAt w' fp bt bw n first (upF T k 1) (upF O k 0) quo k ∧ Mem w' p q N (putB B (k * 256) (List.replicate 256 0)) ∧ Chg [fp, bt, bw, q] w w' := by
  have hmm := @run_makeMap Tryd.prog
  have hd : (((N / 256 : Nat) : Int) == 0) = false := by simp; omega
  have d1 : decide (g < 1) = false := decide_eq_false (by omega)
  have d2 : decide (16 < g) = false := decide_eq_false (by omega)
  have hfm := frames_any hM
  have hqu := Quota_bad h 0 (-1) (Or.inr (by omega))
  go_enter Tryd.func21, Tryd.ntmps21
  go_wp2_with fail
  refine (hfm).mono ?_
  rintro _ _ ⟨rfl, hw⟩
  rw [hw]
  clear hw
  generalize ((N / 256 : Nat) : Int) = NN at *
  go_wp2_with fail
  refine hqu.mono ?_
  rintro _ w1 ⟨rfl, hg1⟩
  have htk := take_any (MemAt.grows hM hg1) (h.grows hg1) hnN hq hap
  go_wp2_with fail
  refine htk.mono ?_
  rintro _ w2 ⟨⟨k, hk, hlow, hT, hfk, rfl, hF2, hM2⟩ | ⟨hall, _⟩, hc2⟩
  · have HF2 := Lib.hid hF2
    have HM2 := Lib.hid hM2
    have hsz := hc2.size
    have hs1 := hg1.size
    have HC2 := Lib.hid ((Chg.of_grows hg1).trans hc2)
    have HK := Lib.hid (show k < n ∧ T k = 0 from ⟨hk, hT⟩)
    clear htk hM h hq hk hlow hT hfk hF2 hM2 hc2 hqu hfm hfr hd
    go_wp2_with fail
    have he : (Obj.cells #[.pointer (some ⟨p, 0, none⟩), .pointer (some ⟨fp, 0, none⟩), .int .i64 g, .int .i64 k, .bool true, .map (some w2.heap.size), .int .i64 0, .int .i64 0, .int .i64 0, .int .i64 0, .int .i64 0, .int .i64 0, .int .i64 0, .int .i64 0, .int .i64 0, .int .i64 0, .int .i64 0, .int .i64 0, .int .i64 0, .int .i64 0, .int .i64 0, .int .i64 0, .int .i64 0, .int .i64 0, .int .i64 0, .int .i64 0, .int .i64 0, .int .i64 0, .int .i64 0, .int .i64 0, .int .i64 0, .int .i64 0, .int .i64 0, .int .i64 0, .int .i64 0, .int .i64 0, .int .i64 0, .int .i64 0] 32) = Obj.cells (tbL p fp g k true w2.heap.size (fun _ => 0)) 32 := rfl
    have hF3 := HF2.out.chg (Chg.of_grows (S := []) (((Grows.refl w2).alloc (Obj.map #[] 0)).alloc (Obj.cells (tbL p fp g k true w2.heap.size (fun _ => 0)) 32))) (by simp)
    have hM3 := MemAt.grows HM2.out (((Grows.refl w2).alloc (Obj.map #[] 0)).alloc (Obj.cells (tbL p fp g k true w2.heap.size (fun _ => 0)) 32))
    have hmap := (IMap.made w2 Tryd.prog 3 3).grows ((Grows.refl _).alloc (Obj.cells (tbL p fp g k true w2.heap.size (fun _ => 0)) 32))
    have htb : TbAt ((w2.alloc (Obj.map #[] 0)).alloc (Obj.cells (tbL p fp g k true w2.heap.size (fun _ => 0)) 32)) (w2.heap.size + 1) p fp w2.heap.size g k true (fun _ => 0) := ⟨Row.new_at _ _ _ (by simp)⟩
    have hc3 := HC2.out.trans (Chg.of_grows (S := [fp, bt, bw, q]) (((Grows.refl w2).alloc (Obj.map #[] 0)).alloc (Obj.cells (tbL p fp g k true w2.heap.size (fun _ => 0)) 32)))
    clear he
    go_ret2
    exact ⟨w2.heap.size + 1, w2.heap.size, k, rfl, HK.out.1, HK.out.2, htb, hmap, by omega, by omega, by omega, hF3, hM3, hc3⟩
  · obtain ⟨i, hi, hTi⟩ := hfr
    have := hall i hi
    omega
theorem usable_open {w : World} {tb pm pf bl : Nat} {g root : Int} {c : Nat → Int} (h : TbAt w tb pm pf bl g root true c) :
    Calls Tryd.prog 46 #[.pointer (some ⟨tb, 0, none⟩)] w fun r w' => r = .returned (.int .i64 0) ∧ w' = w := by
  obtain ⟨c0, c1, c2, c3, c4, c5, lt⟩ := h.cells
  have hb : ∀ w, (binOp .eql 29 (.map (some bl)) (.map none)).run Tryd.prog w = .ok (.bool false) w := fun w => by kernel_rfl
  have hno : Calls Tryd.prog 47 #[.pointer (some ⟨tb, 0, none⟩)] w fun r w' => r = .returned (.bool false) ∧ w' = w := by
    clear h
    go_enter Tryd.func47, Tryd.ntmps47
    go_wp2_with fail
    go_ret
    exact ⟨rfl, rfl⟩
  clear h hb
  go_enter Tryd.func46, Tryd.ntmps46
  go_wp2_with fail
  refine (hno).mono ?_
  rintro _ _ ⟨rfl, hw⟩
  rw [hw]
  clear hw
  clear hno
  go_wp2_with fail
  go_ret
  exact ⟨rfl, rfl⟩
theorem mapped_arg {w : World} {tb pm pf bl : Nat} {g root : Int} {c : Nat → Int} (h : TbAt w tb pm pf bl g root true c) {page : Int} (hp : page < 0 ∨ 1024 ≤ page) :
    Calls Tryd.prog 44 #[.pointer (some ⟨tb, 0, none⟩), .int .i64 page] w fun r w' => r = .returned (.tuple #[.agg #[.bool false, .bool false, .bool false, .bool false, .bool false, .bool false, .bool false, .int .i64 0], .int .i64 2]) ∧ Grows w w' := by
  have hip : ∀ w, Calls Tryd.prog 48 #[.int .i64 page] w fun r w' => r = .returned (.bool false) ∧ w' = w := fun w => by
    by_cases h0 : page < 0
    · have d1 : decide (0 ≤ page) = false := decide_eq_false (by omega)
      clear h hp
      go_enter Tryd.func48, Tryd.ntmps48
      go_wp2_with fail
      go_ret
      exact ⟨rfl, rfl⟩
    · have d1 : decide (0 ≤ page) = true := decide_eq_true (by omega)
      have d2 : decide (page < 1024) = false := decide_eq_false (by omega)
      clear h hp
      go_enter Tryd.func48, Tryd.ntmps48
      go_wp2_with fail
      go_ret
      exact ⟨rfl, rfl⟩
  go_enter Tryd.func44, Tryd.ntmps44
  go_wp2_with fail
  refine (usable_open (h.grows ((Grows.refl w).alloc _))).mono ?_
  rintro _ _ ⟨rfl, hw⟩
  rw [hw]
  clear hw
  go_wp2_with fail
  refine (hip _).mono ?_
  rintro _ _ ⟨rfl, hw⟩
  rw [hw]
  clear hw
  go_wp2_with fail
  exact bodyPost_ret (v := .tuple #[.agg #[.bool false, .bool false, .bool false, .bool false, .bool false, .bool false, .bool false, .int .i64 0], .int .i64 2]) (by simp [results, Tryd.results44, go_sem]) rfl ⟨rfl, by first | exact (Grows.refl _).alloc _⟩
theorem Protect_arg {w : World} {tb pm pf bl : Nat} {g root : Int} {c : Nat → Int} (h : TbAt w tb pm pf bl g root true c) {page : Int} (hp : page < 0 ∨ 1024 ≤ page) :
    Calls Tryd.prog 17 #[.pointer (some ⟨tb, 0, none⟩), .int .i64 page, .agg #[.bool true, .bool false, .bool false]] w fun r w' => r = .returned (.int .i64 2) ∧ Grows w w' := by
  have hri : ∀ w, Calls Tryd.prog 49 #[.agg #[.bool true, .bool false, .bool false]] w fun r w' => r = .returned (.bool true) ∧ Grows w w' := fun w => by
    clear h hp
    go_enter Tryd.func49, Tryd.ntmps49
    go_wp2_with fail
    go_ret
    exact ⟨rfl, by first | exact Grows.refl _ | exact (Grows.refl _).alloc _⟩
  go_enter Tryd.func17, Tryd.ntmps17
  go_wp2_with fail
  refine (usable_open (h.grows ((Grows.refl w).alloc _))).mono ?_
  rintro _ _ ⟨rfl, hw⟩
  rw [hw]
  clear hw
  go_wp2_with fail
  refine (hri _).mono ?_
  rintro _ w1 ⟨rfl, hg1⟩
  go_wp2_with fail
  refine (mapped_arg ((h.grows ((Grows.refl w).alloc _)).grows hg1) hp).mono ?_
  rintro _ w2 ⟨rfl, hg2⟩
  have hg := (((Grows.refl w).alloc (Obj.cells #[.bool true, .bool false, .bool false] 23)).trans hg1).trans hg2
  clear hg1 hg2 h hp hri
  go_wp2_with fail
  go_ret
  exact ⟨rfl, by first | exact hg | exact hg.alloc _⟩
end Go.Proofs.YtlchlklbjocliaaDoor
