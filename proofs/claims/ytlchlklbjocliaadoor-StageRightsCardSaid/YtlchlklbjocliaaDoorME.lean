/- Texts of one kind, laid together. -/
import Derived.Test.YtlchlklbjocliaaDoorMB
import Derived.Test.YtlchlklbjocliaaDoorMC
import Derived.Carry
import Derived.Test.YtlchlklbjocliaaDoorMD
import Derived.StillTailTactics
import Derived.Deep.RegionHeld3
/- Tables that no call made: what the functions of the package stage answer. -/
namespace Go.Proofs.YtlchlklbjocliaaDoor
open Go Go.RowKit
set_option linter.unusedSimpArgs false
set_option linter.unusedVariables false
set_option maxRecDepth 100000
def NoTb (w : World) (v : Option Addr) : Prop := v = none ∨ ∃ p, v = some ⟨p, 0, none⟩ ∧ p < w.heap.size ∧ w.cell? ⟨p, 5, none⟩ = some (.map none)
theorem NoTb.grows {w w' : World} {v : Option Addr} (h : NoTb w v) (hg : Grows w w') : NoTb w' v := by
  rcases h with h | ⟨p, h, h1, h2⟩
  · exact Or.inl h
  · exact Or.inr ⟨p, h, hg.lt h1, by rw [hg.cell h1]; exact h2⟩
theorem tnone_nob {w : World} {v : Option Addr} (h : NoTb w v) :
    Calls Tryd.prog 47 #[.pointer v] w fun r w' => r = .returned (.bool true) ∧ w' = w := by
  rcases h with rfl | ⟨p, rfl, h1, h2⟩
  · go_enter Tryd.func47, Tryd.ntmps47
    go_wp2_with fail
    go_ret
    exact ⟨rfl, rfl⟩
  · have hb := eqlNil
    go_enter Tryd.func47, Tryd.ntmps47
    go_wp2_with fail
    go_ret
    exact ⟨rfl, rfl⟩
theorem usable_nob {w : World} {v : Option Addr} (h : NoTb w v) :
    Calls Tryd.prog 46 #[.pointer v] w fun r w' => r = .returned (.int .i64 1) ∧ w' = w := by
  go_enter Tryd.func46, Tryd.ntmps46
  go_wp2_with fail
  refine (tnone_nob h).mono ?_
  rintro _ _ ⟨rfl, hw⟩
  rw [hw]
  clear hw
  go_wp2_with fail
  go_ret
  exact ⟨rfl, rfl⟩
theorem Root_nob {w : World} {v : Option Addr} (h : NoTb w v) :
    Calls Tryd.prog 15 #[.pointer v] w fun r w' => r = .returned (.int .i64 (-1)) ∧ w' = w := by
  go_enter Tryd.func15, Tryd.ntmps15
  go_wp2_with fail
  refine (tnone_nob h).mono ?_
  rintro _ _ ⟨rfl, hw⟩
  rw [hw]
  clear hw
  go_wp2_with fail
  go_ret
  exact ⟨rfl, rfl⟩
theorem Close_nob {w : World} {v : Option Addr} (h : NoTb w v) :
    Calls Tryd.prog 18 #[.pointer v] w fun r w' => r = .returned (.int .i64 1) ∧ w' = w := by
  go_enter Tryd.func18, Tryd.ntmps18
  go_wp2_with fail
  refine (usable_nob h).mono ?_
  rintro _ _ ⟨rfl, hw⟩
  rw [hw]
  clear hw
  go_wp2_with fail
  go_ret
  exact ⟨rfl, rfl⟩
theorem Pages_nob {w : World} {v : Option Addr} (h : NoTb w v) :
    Calls Tryd.prog 14 #[.pointer v] w fun r w' => r = .returned (.tuple #[.int .i64 0, .int .i64 0]) ∧ w' = w := by
  go_enter Tryd.func14, Tryd.ntmps14
  go_wp2_with fail
  refine (usable_nob h).mono ?_
  rintro _ _ ⟨rfl, hw⟩
  rw [hw]
  clear hw
  go_wp2_with fail
  go_ret2
  exact ⟨rfl, rfl⟩
theorem Map_nob {w : World} {v : Option Addr} (h : NoTb w v) (page frame : Int) (r0 r1 r2 : Bool) :
    Calls Tryd.prog 16 #[.pointer v, .int .i64 page, .int .i64 frame, .agg #[.bool r0, .bool r1, .bool r2]] w fun r w' => r = .returned (.int .i64 1) ∧ Grows w w' := by
  go_enter Tryd.func16, Tryd.ntmps16
  go_wp2_with fail
  have hu := usable_nob (h.grows ((Grows.refl w).alloc (Obj.cells #[.bool r0, .bool r1, .bool r2] 23)))
  refine (hu).mono ?_
  rintro _ _ ⟨rfl, hw⟩
  rw [hw]
  clear hw
  clear hu
  go_wp2_with fail
  go_ret
  exact ⟨rfl, (Grows.refl w).alloc _⟩
theorem mapped_nob {w : World} {v : Option Addr} (h : NoTb w v) (page : Int) :
    Calls Tryd.prog 44 #[.pointer v, .int .i64 page] w fun r w' => r = .returned (.tuple #[.agg #[.bool false, .bool false, .bool false, .bool false, .bool false, .bool false, .bool false, .int .i64 0], .int .i64 1]) ∧ Grows w w' := by
  go_enter Tryd.func44, Tryd.ntmps44
  go_wp2_with fail
  refine (usable_nob (h.grows ((Grows.refl w).alloc _))).mono ?_
  rintro _ _ ⟨rfl, hw⟩
  rw [hw]
  clear hw
  go_wp2_with fail
  exact bodyPost_ret (v := .tuple #[.agg #[.bool false, .bool false, .bool false, .bool false, .bool false, .bool false, .bool false, .int .i64 0], .int .i64 1]) (by simp [results, Tryd.results44, go_sem]) rfl ⟨rfl, by first | exact (Grows.refl _).alloc _⟩
theorem Unmap_nob {w : World} {v : Option Addr} (h : NoTb w v) (page : Int) :
    Calls Tryd.prog 12 #[.pointer v, .int .i64 page] w fun r w' => r = .returned (.tuple #[.int .i64 0, .int .i64 1]) ∧ Grows w w' := by
  go_enter Tryd.func12, Tryd.ntmps12
  go_wp2_with fail
  refine (mapped_nob h page).mono ?_
  rintro _ w1 ⟨rfl, hg1⟩
  go_wp2_with fail
  go_ret2
  exact ⟨rfl, by first | exact hg1 | exact hg1.alloc _⟩
theorem Look_nob {w : World} {v : Option Addr} (h : NoTb w v) (page : Int) :
    Calls Tryd.prog 13 #[.pointer v, .int .i64 page] w fun r w' => r = .returned (.tuple #[.int .i64 0, .agg #[.bool false, .bool false, .bool false], .bool false]) ∧ Grows w w' := by
  go_enter Tryd.func13, Tryd.ntmps13
  go_wp2_with fail
  refine (mapped_nob (h.grows ((Grows.refl w).alloc _)) page).mono ?_
  rintro _ w1 ⟨rfl, hg1⟩
  have hr := (Row.new w #[.bool false, .bool false, .bool false] 23).grows hg1
  obtain ⟨b0, hb0⟩ : ∃ b, b = w.heap.size := ⟨_, rfl⟩
  rw [← hb0] at hr ⊢
  have HG1 := Lib.hid (((Grows.refl w).alloc (Obj.cells #[.bool false, .bool false, .bool false] 23)).trans hg1)
  have hr2 := fun (c : Array Value) (t : TypeId) => hr.grows ((Grows.refl w1).alloc (Obj.cells c t))
  have f0 : ∀ c t, (w1.alloc (Obj.cells c t)).frozen? ⟨b0, 0, none⟩ = false := fun c t => (hr2 c t).frozen 0
  have f1 : ∀ c t, (w1.alloc (Obj.cells c t)).frozen? ⟨b0, 1, none⟩ = false := fun c t => (hr2 c t).frozen 1
  have f2 : ∀ c t, (w1.alloc (Obj.cells c t)).frozen? ⟨b0, 2, none⟩ = false := fun c t => (hr2 c t).frozen 2
  have c0 : ∀ c t, (w1.alloc (Obj.cells c t)).cell? ⟨b0, 0, none⟩ = some (.bool false) := fun c t => (hr2 c t).cell 0
  have c1 : ∀ c t, (w1.alloc (Obj.cells c t)).cell? ⟨b0, 1, none⟩ = some (.bool false) := fun c t => (hr2 c t).cell 1
  have c2 : ∀ c t, (w1.alloc (Obj.cells c t)).cell? ⟨b0, 2, none⟩ = some (.bool false) := fun c t => (hr2 c t).cell 2
  have HB0 := Lib.hid hb0
  clear hr hr2 hg1 hb0
  go_wp2_with fail
  exact bodyPost_ret (v := .tuple #[.int .i64 0, .agg #[.bool false, .bool false, .bool false], .bool false]) (by simp [results, Tryd.results13, go_sem, c0, c1, c2]) rfl ⟨rfl, (((((Chg.refl [b0] _).setCell (Or.inl (by simp)) _ _).setCell (Or.inl (by simp)) _ _).setCell (Or.inl (by simp)) _ _)).to_grows (HG1.out.alloc _) (by have := HB0.out; simp; omega)⟩
theorem Protect_nob {w : World} {v : Option Addr} (h : NoTb w v) (page : Int) (r0 r1 r2 : Bool) :
    Calls Tryd.prog 17 #[.pointer v, .int .i64 page, .agg #[.bool r0, .bool r1, .bool r2]] w fun r w' => r = .returned (.int .i64 1) ∧ Grows w w' := by
  go_enter Tryd.func17, Tryd.ntmps17
  go_wp2_with fail
  refine (usable_nob (h.grows ((Grows.refl w).alloc _))).mono ?_
  rintro _ _ ⟨rfl, hw⟩
  rw [hw]
  clear hw
  go_wp2_with fail
  refine (mapped_nob (h.grows ((Grows.refl w).alloc _)) page).mono ?_
  rintro _ w1 ⟨rfl, hg1⟩
  go_wp2_with fail
  go_ret
  exact ⟨rfl, (((Grows.refl w).alloc _).trans hg1).alloc _⟩

end Go.Proofs.YtlchlklbjocliaaDoor

/- The package stage: take, New, and what is told of open tables at a page that is none. -/
namespace Go.Proofs.YtlchlklbjocliaaDoor
open Go Go.RowKit
set_option linter.unusedSimpArgs false
set_option linter.unusedVariables false
set_option maxRecDepth 100000
def tbL (pm pf : Nat) (g root : Int) (op : Bool) (bl : Nat) (c : Nat → Int) : Array Value := #[.pointer (some ⟨pm, 0, none⟩), .pointer (some ⟨pf, 0, none⟩), .int .i64 g, .int .i64 root, .bool op, .map (some bl), .int .i64 (c 0), .int .i64 (c 1), .int .i64 (c 2), .int .i64 (c 3), .int .i64 (c 4), .int .i64 (c 5), .int .i64 (c 6), .int .i64 (c 7), .int .i64 (c 8), .int .i64 (c 9), .int .i64 (c 10), .int .i64 (c 11), .int .i64 (c 12), .int .i64 (c 13), .int .i64 (c 14), .int .i64 (c 15), .int .i64 (c 16), .int .i64 (c 17), .int .i64 (c 18), .int .i64 (c 19), .int .i64 (c 20), .int .i64 (c 21), .int .i64 (c 22), .int .i64 (c 23), .int .i64 (c 24), .int .i64 (c 25), .int .i64 (c 26), .int .i64 (c 27), .int .i64 (c 28), .int .i64 (c 29), .int .i64 (c 30), .int .i64 (c 31)]
structure TbAt (w : World) (tb pm pf bl : Nat) (g root : Int) (op : Bool) (c : Nat → Int) : Prop where
  row : Row w tb (tbL pm pf g root op bl c) 32
theorem TbAt.grows {w w' : World} {tb pm pf bl : Nat} {g root : Int} {op : Bool} {c : Nat → Int} (h : TbAt w tb pm pf bl g root op c) (hg : Grows w w') : TbAt w' tb pm pf bl g root op c := ⟨h.row.grows hg⟩
theorem TbAt.chg {S : List Nat} {w w' : World} {tb pm pf bl : Nat} {g root : Int} {op : Bool} {c : Nat → Int} (h : TbAt w tb pm pf bl g root op c) (hc : Chg S w w') (hn : tb ∉ S) : TbAt w' tb pm pf bl g root op c := ⟨h.row.chg hc hn⟩
theorem TbAt.cells {w : World} {tb pm pf bl : Nat} {g root : Int} {op : Bool} {c : Nat → Int} (h : TbAt w tb pm pf bl g root op c) :
    w.cell? ⟨tb, 0, none⟩ = some (.pointer (some ⟨pm, 0, none⟩)) ∧ w.cell? ⟨tb, 1, none⟩ = some (.pointer (some ⟨pf, 0, none⟩)) ∧ w.cell? ⟨tb, 2, none⟩ = some (.int .i64 g) ∧ w.cell? ⟨tb, 3, none⟩ = some (.int .i64 root) ∧ w.cell? ⟨tb, 4, none⟩ = some (.bool op) ∧ w.cell? ⟨tb, 5, none⟩ = some (.map (some bl)) ∧ tb < w.heap.size :=
  ⟨by rw [h.row.cell]; rfl, by rw [h.row.cell]; rfl, by rw [h.row.cell]; rfl, by rw [h.row.cell]; rfl, by rw [h.row.cell]; rfl, by rw [h.row.cell]; rfl, h.row.lt⟩
set_option maxHeartbeats 4000000 in
theorem take_any {w : World} {p q N fp bt bw n first low : Nat} {B T O : Nat → Nat} {quo : Nat → Int} (hM : Mem w p q N B) (h : FrAt w fp bt bw n first T O quo low) (hnN : n ≤ N / 256) (hq : (ownC n T O 0 : Int) < quo 0) (hap : p ≠ fp ∧ p ≠ bt ∧ p ≠ bw ∧ q ≠ fp ∧ q ≠ bt ∧ q ≠ bw) :
    Calls Tryd.prog 52 #[.pointer (some ⟨p, 0, none⟩), .pointer (some ⟨fp, 0, none⟩)] w fun r w' => ((∃ k, k < n ∧ (∀ i, i < k → 0 < T i) ∧ T k = 0 ∧ first ≤ k ∧ r = .returned (.tuple #[.int .i64 k, .int .i64 0]) ∧ FrAt w' fp bt bw n first (upF T k 1) (upF O k 0) quo k ∧ Mem w' p q N (putB B (k * 256) (List.replicate 256 0))) ∨
      ((∀ i, i < n → 0 < T i) ∧ r = .returned (.tuple #[.int .i64 0, .int .i64 20]) ∧ FrAt w' fp bt bw n first T O quo n ∧ Mem w' p q N B)) ∧ Chg [fp, bt, bw, q] w w' := by
  have hal := Alloc_any h (o := 0) (by omega) hq
  go_enter Tryd.func52, Tryd.ntmps52
  go_wp2_with fail
  refine hal.mono ?_
  rintro _ w1 ⟨hal1 | hal1, hc1⟩
  · obtain ⟨k, hk, hlow, hT, hfk, rfl, hF1⟩ := hal1
    have hM1 : Mem w1 p q N B := MemAt.chg hM hc1 (by simp; omega) (by simp; omega)
    have hcl := Clear_ok hM1 k (by omega)
    have HF1 := Lib.hid hF1
    have HC1 := Lib.hid hc1
    have HK := Lib.hid (show k < n ∧ (∀ i, i < k → 0 < T i) ∧ T k = 0 ∧ first ≤ k from ⟨hk, hlow, hT, hfk⟩)
    clear hal hM h hnN hq hk hlow hT hfk hF1 hc1 hM1
    go_wp2_with fail
    refine hcl.mono ?_
    rintro _ w2 ⟨rfl, hM2, hc2⟩
    have hF2 := HF1.out.chg hc2 (by simp; omega)
    have HF2 := Lib.hid hF2
    have HM2 := Lib.hid hM2
    have HC2 := Lib.hid ((HC1.out.weaken (T := [fp, bt, bw, q]) (by simp)).trans (hc2.weaken (T := [fp, bt, bw, q]) (by simp)))
    clear hcl hF2 hM2 hc2
    go_wp2_with fail
    go_ret2
    exact ⟨Or.inl ⟨k, HK.out.1, HK.out.2.1, HK.out.2.2.1, HK.out.2.2.2, rfl, HF2.out, HM2.out⟩, HC2.out⟩
  · obtain ⟨hall, rfl, hF1⟩ := hal1
    have hM1 : Mem w1 p q N B := MemAt.chg hM hc1 (by simp; omega) (by simp; omega)
    have HF1 := Lib.hid hF1
    have HM1 := Lib.hid hM1
    have HA := Lib.hid hall
    have HC1 := Lib.hid (hc1.weaken (T := [fp, bt, bw, q]) (by simp))
    clear hal hM h hnN hq hF1 hc1 hM1 hall
    go_wp2_with fail
    go_ret2
    exact ⟨Or.inr ⟨HA.out, rfl, HF1.out, HM1.out⟩, HC1.out⟩
set_option maxHeartbeats 4000000 in
theorem snew_ok {w : World} {p q N fp bt bw n first low : Nat} {B T O : Nat → Nat} {quo : Nat → Int} (hM : Mem w p q N B) (h : FrAt w fp bt bw n first T O quo low) (hnN : n ≤ N / 256) (hN : N / 256 ≠ 0) (hq : (ownC n T O 0 : Int) < quo 0) (hap : p ≠ fp ∧ p ≠ bt ∧ p ≠ bw ∧ q ≠ fp ∧ q ≠ bt ∧ q ≠ bw) {g : Int} (hg1 : 1 ≤ g) (hg2 : g ≤ 16) (hfr : ∃ i, i < n ∧ T i = 0) :
    Calls Tryd.prog 21 #[.pointer (some ⟨p, 0, none⟩), .pointer (some ⟨fp, 0, none⟩), .int .i64 g] w fun r w' => ∃ tb bl k, r = .returned (.tuple #[.pointer (some ⟨tb, 0, none⟩), .int .i64 0]) ∧ k < n ∧ T k = 0 ∧ TbAt w' tb p fp bl g k true (fun _ => 0) ∧ IMap Tryd.prog 3 3 w' bl 0 (fun _ => none) ∧ w.heap.size ≤ tb ∧ w.heap.size ≤ bl ∧ tb ≠ bl ∧
      FrAt w' fp bt bw n first (upF T k 1) (upF O k 0) quo k ∧ Mem w' p q N (putB B (k * 256) (List.replicate 256 0)) ∧ Chg [fp, bt, bw, q] w w' := by
  have hmm := @run_makeMap Tryd.prog
  have hd : (((N / 256 : Nat) : Int) == 0) = false := by simp; omega
  have d1 : decide (g < 1) = false := decide_eq_false (by omega)
  have d2 : decide (16 < g) = false := decide_eq_false (by omega)
  have hfm := frames_any hM
  have hqu := Quota_bad h 0 (-1) (Or.inr (by omega))
  go_enter Tryd.func21, Tryd.ntmps21
  go_wp2_with fail
  refine (hfm).mono ?_
  rintro _ _ ⟨rfl, hw⟩
  rw [hw]
  clear hw
  generalize ((N / 256 : Nat) : Int) = NN at *
  go_wp2_with fail
  refine hqu.mono ?_
  rintro _ w1 ⟨rfl, hg1⟩
  have htk := take_any (MemAt.grows hM hg1) (h.grows hg1) hnN hq hap
  go_wp2_with fail
  refine htk.mono ?_
  rintro _ w2 ⟨⟨k, hk, hlow, hT, hfk, rfl, hF2, hM2⟩ | ⟨hall, _⟩, hc2⟩
  · have HF2 := Lib.hid hF2
    have HM2 := Lib.hid hM2
    have hsz := hc2.size
    have hs1 := hg1.size
    have HC2 := Lib.hid ((Chg.of_grows hg1).trans hc2)
    have HK := Lib.hid (show k < n ∧ T k = 0 from ⟨hk, hT⟩)
    clear htk hM h hq hk hlow hT hfk hF2 hM2 hc2 hqu hfm hfr hd
    go_wp2_with fail
    have he : (Obj.cells #[.pointer (some ⟨p, 0, none⟩), .pointer (some ⟨fp, 0, none⟩), .int .i64 g, .int .i64 k, .bool true, .map (some w2.heap.size), .int .i64 0, .int .i64 0, .int .i64 0, .int .i64 0, .int .i64 0, .int .i64 0, .int .i64 0, .int .i64 0, .int .i64 0, .int .i64 0, .int .i64 0, .int .i64 0, .int .i64 0, .int .i64 0, .int .i64 0, .int .i64 0, .int .i64 0, .int .i64 0, .int .i64 0, .int .i64 0, .int .i64 0, .int .i64 0, .int .i64 0, .int .i64 0, .int .i64 0, .int .i64 0, .int .i64 0, .int .i64 0, .int .i64 0, .int .i64 0, .int .i64 0, .int .i64 0] 32) = Obj.cells (tbL p fp g k true w2.heap.size (fun _ => 0)) 32 := rfl
    have hF3 := HF2.out.chg (Chg.of_grows (S := []) (((Grows.refl w2).alloc (Obj.map #[] 0)).alloc (Obj.cells (tbL p fp g k true w2.heap.size (fun _ => 0)) 32))) (by simp)
    have hM3 := MemAt.grows HM2.out (((Grows.refl w2).alloc (Obj.map #[] 0)).alloc (Obj.cells (tbL p fp g k true w2.heap.size (fun _ => 0)) 32))
    have hmap := (IMap.made w2 Tryd.prog 3 3).grows ((Grows.refl _).alloc (Obj.cells (tbL p fp g k true w2.heap.size (fun _ => 0)) 32))
    have htb : TbAt ((w2.alloc (Obj.map #[] 0)).alloc (Obj.cells (tbL p fp g k true w2.heap.size (fun _ => 0)) 32)) (w2.heap.size + 1) p fp w2.heap.size g k true (fun _ => 0) := ⟨Row.new_at _ _ _ (by simp)⟩
    have hc3 := HC2.out.trans (Chg.of_grows (S := [fp, bt, bw, q]) (((Grows.refl w2).alloc (Obj.map #[] 0)).alloc (Obj.cells (tbL p fp g k true w2.heap.size (fun _ => 0)) 32)))
    clear he
    go_ret2
    exact ⟨w2.heap.size + 1, w2.heap.size, k, rfl, HK.out.1, HK.out.2, htb, hmap, by omega, by omega, by omega, hF3, hM3, hc3⟩
  · obtain ⟨i, hi, hTi⟩ := hfr
    have := hall i hi
    omega
theorem usable_open {w : World} {tb pm pf bl : Nat} {g root : Int} {c : Nat → Int} (h : TbAt w tb pm pf bl g root true c) :
    Calls Tryd.prog 46 #[.pointer (some ⟨tb, 0, none⟩)] w fun r w' => r = .returned (.int .i64 0) ∧ w' = w := by
  obtain ⟨c0, c1, c2, c3, c4, c5, lt⟩ := h.cells
  have hb : ∀ w, (binOp .eql 29 (.map (some bl)) (.map none)).run Tryd.prog w = .ok (.bool false) w := fun w => by kernel_rfl
  have hno : Calls Tryd.prog 47 #[.pointer (some ⟨tb, 0, none⟩)] w fun r w' => r = .returned (.bool false) ∧ w' = w := by
    clear h
    go_enter Tryd.func47, Tryd.ntmps47
    go_wp2_with fail
    go_ret
    exact ⟨rfl, rfl⟩
  clear h hb
  go_enter Tryd.func46, Tryd.ntmps46
  go_wp2_with fail
  refine (hno).mono ?_
  rintro _ _ ⟨rfl, hw⟩
  rw [hw]
  clear hw
  clear hno
  go_wp2_with fail
  go_ret
  exact ⟨rfl, rfl⟩
theorem mapped_arg {w : World} {tb pm pf bl : Nat} {g root : Int} {c : Nat → Int} (h : TbAt w tb pm pf bl g root true c) {page : Int} (hp : page < 0 ∨ 1024 ≤ page) :
    Calls Tryd.prog 44 #[.pointer (some ⟨tb, 0, none⟩), .int .i64 page] w fun r w' => r = .returned (.tuple #[.agg #[.bool false, .bool false, .bool false, .bool false, .bool false, .bool false, .bool false, .int .i64 0], .int .i64 2]) ∧ Grows w w' := by
  have hip : ∀ w, Calls Tryd.prog 48 #[.int .i64 page] w fun r w' => r = .returned (.bool false) ∧ w' = w := fun w => by
    by_cases h0 : page < 0
    · have d1 : decide (0 ≤ page) = false := decide_eq_false (by omega)
      clear h hp
      go_enter Tryd.func48, Tryd.ntmps48
      go_wp2_with fail
      go_ret
      exact ⟨rfl, rfl⟩
    · have d1 : decide (0 ≤ page) = true := decide_eq_true (by omega)
      have d2 : decide (page < 1024) = false := decide_eq_false (by omega)
      clear h hp
      go_enter Tryd.func48, Tryd.ntmps48
      go_wp2_with fail
      go_ret
      exact ⟨rfl, rfl⟩
  go_enter Tryd.func44, Tryd.ntmps44
  go_wp2_with fail
  refine (usable_open (h.grows ((Grows.refl w).alloc _))).mono ?_
  rintro _ _ ⟨rfl, hw⟩
  rw [hw]
  clear hw
  go_wp2_with fail
  refine (hip _).mono ?_
  rintro _ _ ⟨rfl, hw⟩
  rw [hw]
  clear hw
  go_wp2_with fail
  exact bodyPost_ret (v := .tuple #[.agg #[.bool false, .bool false, .bool false, .bool false, .bool false, .bool false, .bool false, .int .i64 0], .int .i64 2]) (by simp [results, Tryd.results44, go_sem]) rfl ⟨rfl, by first | exact (Grows.refl _).alloc _⟩
theorem Protect_arg {w : World} {tb pm pf bl : Nat} {g root : Int} {c : Nat → Int} (h : TbAt w tb pm pf bl g root true c) {page : Int} (hp : page < 0 ∨ 1024 ≤ page) :
    Calls Tryd.prog 17 #[.pointer (some ⟨tb, 0, none⟩), .int .i64 page, .agg #[.bool true, .bool false, .bool false]] w fun r w' => r = .returned (.int .i64 2) ∧ Grows w w' := by
  have hri : ∀ w, Calls Tryd.prog 49 #[.agg #[.bool true, .bool false, .bool false]] w fun r w' => r = .returned (.bool true) ∧ Grows w w' := fun w => by
    clear h hp
    go_enter Tryd.func49, Tryd.ntmps49
    go_wp2_with fail
    go_ret
    exact ⟨rfl, by first | exact Grows.refl _ | exact (Grows.refl _).alloc _⟩
  go_enter Tryd.func17, Tryd.ntmps17
  go_wp2_with fail
  refine (usable_open (h.grows ((Grows.refl w).alloc _))).mono ?_
  rintro _ _ ⟨rfl, hw⟩
  rw [hw]
  clear hw
  go_wp2_with fail
  refine (hri _).mono ?_
  rintro _ w1 ⟨rfl, hg1⟩
  go_wp2_with fail
  refine (mapped_arg ((h.grows ((Grows.refl w).alloc _)).grows hg1) hp).mono ?_
  rintro _ w2 ⟨rfl, hg2⟩
  have hg := (((Grows.refl w).alloc (Obj.cells #[.bool true, .bool false, .bool false] 23)).trans hg1).trans hg2
  clear hg1 hg2 h hp hri
  go_wp2_with fail
  go_ret
  exact ⟨rfl, by first | exact hg | exact hg.alloc _⟩
end Go.Proofs.YtlchlklbjocliaaDoor

/- The package stage: what reads and writes one entry. -/
namespace Go.Proofs.YtlchlklbjocliaaDoor
open Go Go.RowKit
set_option linter.unusedSimpArgs false
set_option linter.unusedVariables false
set_option maxRecDepth 100000
abbrev LMap := IMap Tryd.prog 3 3
theorem isPage_ok {page : Nat} (hp : page < 1024) (w : World) : Calls Tryd.prog 48 #[.int .i64 page] w fun r w' => r = .returned (.bool true) ∧ w' = w := by
  have d1 : decide (0 ≤ (page : Int)) = true := decide_eq_true (by omega)
  have d2 : decide ((page : Int) < 1024) = true := decide_eq_true (by omega)
  clear hp
  go_enter Tryd.func48, Tryd.ntmps48
  go_wp2_with fail
  go_ret
  exact ⟨rfl, rfl⟩
def rightR (r w x : Bool) : Bool := r || (x && !w)
theorem srights_any (r w x : Bool) (W : World) : Calls Tryd.prog 49 #[.agg #[.bool r, .bool w, .bool x]] W fun e w' => e = .returned (.bool (rightR r w x)) ∧ Grows W w' := by
  cases r <;> cases x <;> cases w
  all_goals
    go_enter Tryd.func49, Tryd.ntmps49
    go_wp2_with fail
    go_ret
    exact ⟨rfl, by first | exact Grows.refl _ | exact (Grows.refl _).alloc _⟩
/-- A page's entry. -/
def pgL (r w x : Bool) (n : Int) : Array Value := #[.bool true, .bool r, .bool w, .bool x, .bool true, .bool false, .bool false, .int .i64 n]
theorem sleaf_any (r w x : Bool) (n : Int) (W : World) : Calls Tryd.prog 53 #[.int .i64 n, .agg #[.bool r, .bool w, .bool x]] W fun e w' => e = .returned (.agg (pgL r w x n)) ∧ Grows W w' := by
  go_enter Tryd.func53, Tryd.ntmps53
  go_wp2_with fail
  exact bodyPost_ret (v := .agg (pgL r w x n)) (by simp [results, Tryd.results53, go_sem, pgL]) rfl ⟨rfl, ((Grows.refl _).alloc _).alloc _⟩
theorem packZ_nat (a b c d e f g : Bool) (n : Int) : 0 ≤ packZ a b c d e f g n ∧ packZ a b c d e f g n < 18446744073709551616 := by
  unfold packZ
  split
  · rename_i h
    have := rightB_frame h
    have h0 : 0 ≤ flagsN a b c d e f g ∧ flagsN a b c d e f g < 1024 := by
      cases a <;> cases b <;> cases c <;> cases d <;> cases e <;> cases f <;> cases g <;> decide
    omega
  · omega
def packN (a b c d e f g : Bool) (n : Int) : Nat := (packZ a b c d e f g n).toNat
theorem packN_eq (a b c d e f g : Bool) (n : Int) : (packN a b c d e f g n : Int) = packZ a b c d e f g n := by
  have := packZ_nat a b c d e f g n
  unfold packN
  omega
theorem packN_lt (a b c d e f g : Bool) (n : Int) : packN a b c d e f g n < 18446744073709551616 := by
  have := packZ_nat a b c d e f g n
  unfold packN
  omega
/-- put: the entry stands there, nothing else changes. -/
theorem put_any {w : World} {tb pm pf bl q N : Nat} {g root : Int} {op : Bool} {c : Nat → Int} {B : Nat → Nat} (h : TbAt w tb pm pf bl g root op c) (hM : Mem w pm q N B) (hT : Widths w) (hP : Places w) {t pl : Nat} (ht : t < 65536) (hpl : pl < 32) (hin : t * 256 + 8 * pl + 8 ≤ N) (hq : q ≠ tb) (a b' c' d e f g' : Bool) (n : Int) :
    Calls Tryd.prog 45 #[.pointer (some ⟨tb, 0, none⟩), .int .i64 t, .int .i64 pl, .agg #[.bool a, .bool b', .bool c', .bool d, .bool e, .bool f, .bool g', .int .i64 n]] w fun r w' => (∃ v, r = .returned v) ∧ Mem w' pm q N (putB B (t * 256 + 8 * pl) (leB (packN a b' c' d e f g' n) 8)) ∧ Chg [q] w w' := by
  have hpk := fun w (hP : Places w) => pack_any a b' c' d e f g' n w hP
  rw [← packN_eq] at hpk
  have HPK := Lib.hid hpk
  have HST := Lib.hid (fun w (h1 : Widths w) (h2 : Mem w pm q N B) => Store_ok h1 h2 (t * 256 + 8 * pl) 8 (packN a b' c' d e f g' n) (by decide) (by omega) hin)
  have e1 : IntKind.u64.wrap (t : Int) = t := wrap_u64_small (by omega) (by omega)
  have e2 : IntKind.u64.wrap (pl : Int) = pl := wrap_u64_small (by omega) (by omega)
  have e3 : IntKind.u64.wrap ((t : Int) * 256) = (t : Int) * 256 := wrap_u64_small (by omega) (by omega)
  have e4 : IntKind.u64.wrap (8 * (pl : Int)) = 8 * (pl : Int) := wrap_u64_small (by omega) (by omega)
  have e5 : IntKind.u64.wrap ((t : Int) * 256 + 8 * (pl : Int)) = ((t * 256 + 8 * pl : Nat) : Int) := by rw [wrap_u64_small (by omega) (by omega)]; omega
  generalize packN a b' c' d e f g' n = V at *
  generalize packE a b' c' d e f g' n = E at *
  have HH := Lib.hid h
  have HM := Lib.hid hM
  have HT := Lib.hid hT
  have HP := Lib.hid hP
  clear h hM hT hP ht hpl hin hpk
  go_enter Tryd.func45, Tryd.ntmps45
  go_wp2_with fail
  refine (HPK.out _ (HP.out.grows ((Grows.refl _).alloc _))).mono ?_
  rintro _ w1 ⟨rfl, hg1⟩
  have hg := ((Grows.refl w).alloc (Obj.cells #[.bool a, .bool b', .bool c', .bool d, .bool e, .bool f, .bool g', .int .i64 n] 111)).trans hg1
  obtain ⟨c0, _, _, _, _, _, lt⟩ := (HH.out.grows hg).cells
  have HG := Lib.hid hg
  clear hg hg1
  go_wp2_with fail
  refine (HST.out w1 (HT.out.grows HG.out) (HM.out.grows HG.out)).mono ?_
  rintro _ w2 ⟨rfl, hM2, hC2⟩
  have HM2 := Lib.hid hM2
  have HC2 := Lib.hid ((Chg.of_grows (S := [q]) HG.out).trans hC2)
  clear hM2 hC2 c0 lt
  go_wp2_with fail
  exact bodyPost_end (v := .tuple #[]) (by simp [results, Tryd.results45, go_sem]) rfl ⟨⟨_, rfl⟩, HM2.out, HC2.out⟩
theorem pageQR {page : Nat} (hp : page < 1024) : (page : Int).tdiv 32 = ((page / 32 : Nat) : Int) ∧ (page : Int).tmod 32 = ((page % 32 : Nat) : Int) ∧ wrap64 ((page / 32 : Nat) : Int) = ((page / 32 : Nat) : Int) ∧ IntKind.i64.wrap ((page / 32 : Nat) : Int) = ((page / 32 : Nat) : Int) := by
  rw [Int.tdiv_eq_ediv_of_nonneg (by omega), Int.tmod_eq_emod_of_nonneg (by omega)]
  refine ⟨by omega, by omega, wrap64_small (by omega) (by omega), ?_⟩
  rw [IntKind.wrap_i64]
  omega
theorem zero_int' (w : World) : (zeroValue 3).run Tryd.prog w = .ok (.int .i64 0) w := by
  have h : ∀ w, (zeroValue 3).run Tryd.prog w = .ok (.int .i64 0) w := fun w => by kernel_rfl
  exact h w
theorem get_none {w : World} {tb pm pf bl s : Nat} {g root : Int} {op : Bool} {c : Nat → Int} {L : Int → Option Int} (h : TbAt w tb pm pf bl g root op c) (hL : LMap w bl s L) {page : Nat} (hp : page < 1024) (hl : L ((page / 32 : Nat) : Int) = none) :
    Calls Tryd.prog 51 #[.pointer (some ⟨tb, 0, none⟩), .int .i64 page] w fun r w' => r = .returned (.tuple #[.agg zeroE, .bool false]) ∧ Grows w w' := by
  have hlk := fun w' (hg : Grows w w') => ((hL.grows hg).look_ok Tryd.underlying3 Tryd.underlying3 Tryd.underlying29 (zero_int' w') (K := ((page / 32 : Nat) : Int)) (wf_of (by omega) (by omega))).1
  rw [hl] at hlk
  simp only [Option.getD_none, Option.isSome_none] at hlk
  obtain ⟨q1, q2, q3, q4⟩ := pageQR hp
  generalize page / 32 = kq at *
  generalize page % 32 = pr at *
  have HK := Lib.hid hlk
  have hlk2 := hlk _ ((Grows.refl w).alloc (Obj.cells zeroE 111))
  unfold zeroE at hlk2
  obtain ⟨_, _, _, _, _, c5, lt⟩ := (h.grows ((Grows.refl w).alloc (Obj.cells zeroE 111))).cells
  unfold zeroE at c5 lt
  clear h hL hp hl hlk
  go_enter Tryd.func51, Tryd.ntmps51
  go_wp2_with fail
  exact bodyPost_ret (v := .tuple #[.agg zeroE, .bool false]) (by simp [results, Tryd.results51, go_sem, zeroE]) rfl ⟨rfl, by first | exact (Grows.refl _).alloc _ | exact (((((((((Grows.refl w).alloc _).setCell (Nat.le_refl _) _).setCell (Nat.le_refl _) _).setCell (Nat.le_refl _) _).setCell (Nat.le_refl _) _).setCell (Nat.le_refl _) _).setCell (Nat.le_refl _) _).setCell (Nat.le_refl _) _).setCell (Nat.le_refl _) _⟩
theorem gok_ne (v : Nat) : (!(eb v 0 == false && (eb v 1 == false && (eb v 2 == false && (eb v 3 == false && (eb v 4 == false && (eb v 5 == false && (eb v 6 == false && (ef v : Int) == 0)))))))) = gok v := by
  cases h : gok v
  · have e0 : ∀ k, eb v k = false := fun k => by unfold eb; rw [h]; rfl
    have e1 : ef v = 0 := by unfold ef; rw [h]; rfl
    rw [e0, e0, e0, e0, e0, e0, e0, e1]
    rfl
  · have e0 : eb v 0 = true := by unfold eb; rw [h, bitN0 h]; rfl
    rw [e0]
    rfl
/-- Load of eight bytes anywhere: the number that stands there, or 0. -/
theorem load_gv {w : World} {p q N : Nat} {B : Nat → Nat} (hW : Widths w) (h : Mem w p q N B) {A : Nat} (hA : A < 18446744073709551616) :
    Calls Tryd.prog 81 #[.pointer (some ⟨p, 0, none⟩), .int .u64 A, .int .i64 8] w fun r w' => (∃ e : Int, r = .returned (.tuple #[.int .u64 (gv N B A : Nat), .int .i64 e])) ∧ Grows w w' := by
  by_cases he : numE N A 8 = 0
  · obtain ⟨K, hK, hk, ha, hn, h8, h0⟩ := numE_ok he
    obtain rfl : K = 8 := by omega
    have hgv : gv N B A = loadN (segB B A 8) := by unfold gv; rw [if_pos he]
    rw [hgv]
    exact (Load_ok hW h A 8 hk ha hn).mono fun r w' hr => ⟨⟨0, hr.1⟩, hr.2⟩
  · have hgv : gv N B A = 0 := by unfold gv; rw [if_neg he]
    rw [hgv]
    exact (Load_bad h A 8 hA he).mono fun r w' hr => ⟨⟨_, hr.1⟩, hr.2⟩
theorem gv_lt {w : World} {p q N : Nat} {B : Nat → Nat} (h : Mem w p q N B) (A : Nat) : gv N B A < 18446744073709551616 := by
  by_cases he : numE N A 8 = 0
  · obtain ⟨K, hK, hk, ha, hn, h8, h0⟩ := numE_ok he
    obtain rfl : K = 8 := by omega
    have hgv : gv N B A = loadN (segB B A 8) := by unfold gv; rw [if_pos he]
    rw [hgv]
    have h1 : ∀ x ∈ segB B A 8, x < 256 := segB_lt (n := N) (fun i hi => h.bts.byte hi) (by omega)
    have h2 := leN_lt h1
    rw [segB_length] at h2
    unfold loadN
    rw [if_neg (by rw [segB_length]; decide)]
    exact h2
  · unfold gv; rw [if_neg he]; decide
set_option maxHeartbeats 1000000 in
theorem get_some {w : World} {tb pm pf bl q N s : Nat} {g root : Int} {op : Bool} {c : Nat → Int} {L : Int → Option Int} {B : Nat → Nat} (h : TbAt w tb pm pf bl g root op c) (hL : LMap w bl s L) (hM : Mem w pm q N B) (hT : Widths w) (hP : Places w) {page t : Nat} (hp : page < 1024) (hl : L ((page / 32 : Nat) : Int) = some (t : Int)) (ht : t < 65536) :
    Calls Tryd.prog 51 #[.pointer (some ⟨tb, 0, none⟩), .int .i64 page] w fun r w' => r = .returned (.tuple #[.agg (entA (gv N B (t * 256 + 8 * (page % 32)))), .bool (gok (gv N B (t * 256 + 8 * (page % 32))))]) ∧ Grows w w' := by
  have hlk := fun w' (hg : Grows w w') => ((hL.grows hg).look_ok Tryd.underlying3 Tryd.underlying3 Tryd.underlying29 (zero_int' w') (K := ((page / 32 : Nat) : Int)) (wf_of (by omega) (by omega))).1
  rw [hl] at hlk
  simp only [Option.getD_some, Option.isSome_some] at hlk
  obtain ⟨q1, q2, q3, q4⟩ := pageQR hp
  have hpr : page % 32 < 32 := by omega
  generalize page / 32 = kq at *
  generalize page % 32 = pr at *
  have e1 : IntKind.u64.wrap (t : Int) = t := wrap_u64_small (by omega) (by omega)
  have e2 : IntKind.u64.wrap (pr : Int) = pr := wrap_u64_small (by omega) (by omega)
  have e3 : IntKind.u64.wrap ((t : Int) * 256) = (t : Int) * 256 := wrap_u64_small (by omega) (by omega)
  have e4 : IntKind.u64.wrap (8 * (pr : Int)) = 8 * (pr : Int) := wrap_u64_small (by omega) (by omega)
  have e5 : IntKind.u64.wrap ((t : Int) * 256 + 8 * (pr : Int)) = ((t * 256 + 8 * pr : Nat) : Int) := by rw [wrap_u64_small (by omega) (by omega)]; omega
  have hld := fun W (hg : Grows w W) => load_gv (hT.grows hg) (hM.grows hg) (A := t * 256 + 8 * pr) (by omega)
  have hvl := gv_lt hM (t * 256 + 8 * pr)
  generalize t * 256 + 8 * pr = ad at *
  generalize gv N B ad = v at *
  have hun := fun W (hg : Grows w W) => by have := unpack_any v hvl W (hP.grows hg); rw [unpA_eq] at this; exact this
  have HLD := Lib.hid hld
  have HUN := Lib.hid hun
  have hlk2 := hlk _ ((Grows.refl w).alloc (Obj.cells zeroE 111))
  unfold zeroE at hlk2
  obtain ⟨c0, _, _, _, _, c5, lt⟩ := (h.grows ((Grows.refl w).alloc (Obj.cells zeroE 111))).cells
  unfold zeroE at c0 c5 lt
  clear h hL hM hT hP hp hl ht hlk hpr hld hun hvl
  go_enter Tryd.func51, Tryd.ntmps51
  go_wp2_with fail
  refine (HLD.out _ ((Grows.refl w).alloc _)).mono ?_
  rintro _ w1 ⟨⟨ee, rfl⟩, hg1⟩
  have hg1' := ((Grows.refl w).alloc (Obj.cells zeroE 111)).trans hg1
  have hr4 : Row w1 w.heap.size zeroE 111 := (Row.new w zeroE 111).grows hg1
  obtain ⟨b4, hb4⟩ : ∃ b, b = w.heap.size := ⟨_, rfl⟩
  rw [← hb4] at hr4 ⊢
  have HG1 := Lib.hid hg1'
  have HB4 := Lib.hid hb4
  have HR4 := Lib.hid hr4
  clear hg1 hg1' hr4 hb4 HLD c0 c5 lt hlk2 e1 e2 e3 e4 e5
  go_wp2_with fail
  refine (HUN.out _ HG1.out).mono ?_
  rintro _ w2 ⟨rfl, hg2⟩
  have HGK' := Lib.hid (gok_ne v)
  have HEN := Lib.hid (show entA v = #[.bool (eb v 0), .bool (eb v 1), .bool (eb v 2), .bool (eb v 3), .bool (eb v 4), .bool (eb v 5), .bool (eb v 6), .int .i64 (ef v)] from rfl)
  rw [HEN.out]
  clear HUN
  generalize eb v 0 = a0 at *
  generalize eb v 1 = a1 at *
  generalize eb v 2 = a2 at *
  generalize eb v 3 = a3 at *
  generalize eb v 4 = a4 at *
  generalize eb v 5 = a5 at *
  generalize eb v 6 = a6 at *
  generalize (ef v : Int) = nn at *
  generalize unpE v = ee2 at *
  have hne := fun w => neq_entry a0 a1 a2 a3 a4 a5 a6 false false false false false false false nn 0 w
  generalize (!(a0 == false && (a1 == false && (a2 == false && (a3 == false && (a4 == false && (a5 == false && (a6 == false && nn == 0)))))))) = rb at *
  go_upto_region 6 with fail
  obtain ⟨W3, hW3⟩ : ∃ W3, W3 = w2.alloc (Obj.cells #[.bool a0, .bool a1, .bool a2, .bool a3, .bool a4, .bool a5, .bool a6, .int .i64 nn] 111) := ⟨_, rfl⟩
  obtain ⟨b8, hb8⟩ : ∃ b, b = w2.heap.size := ⟨_, rfl⟩
  rw [← hW3, ← hb8]
  have hr8 : Row W3 b8 #[.bool a0, .bool a1, .bool a2, .bool a3, .bool a4, .bool a5, .bool a6, .int .i64 nn] 111 := by rw [hW3]; exact Row.new_at _ _ _ hb8
  have hg3 : Grows w2 W3 := by rw [hW3]; exact (Grows.refl _).alloc _
  have hr4 := (HR4.out.grows hg2).grows hg3
  have hg43 := (HG1.out.trans hg2).trans hg3
  have hbne : b4 ≠ b8 := by have := (HR4.out.grows hg2).lt; omega
  have l4 := hr4.lt
  have l8 := hr8.lt
  obtain ⟨x0, x1, x2, x3, x4, x5, x6, x7⟩ : W3.cell? ⟨b8, 0, none⟩ = some (.bool a0) ∧ W3.cell? ⟨b8, 1, none⟩ = some (.bool a1) ∧ W3.cell? ⟨b8, 2, none⟩ = some (.bool a2) ∧ W3.cell? ⟨b8, 3, none⟩ = some (.bool a3) ∧ W3.cell? ⟨b8, 4, none⟩ = some (.bool a4) ∧ W3.cell? ⟨b8, 5, none⟩ = some (.bool a5) ∧ W3.cell? ⟨b8, 6, none⟩ = some (.bool a6) ∧ W3.cell? ⟨b8, 7, none⟩ = some (.int .i64 nn) := ⟨hr8.cell 0, hr8.cell 1, hr8.cell 2, hr8.cell 3, hr8.cell 4, hr8.cell 5, hr8.cell 6, hr8.cell 7⟩
  have f0 := hr4.frozen 0
  have f1 := hr4.frozen 1
  have f2 := hr4.frozen 2
  have f3 := hr4.frozen 3
  have f4 := hr4.frozen 4
  have f5 := hr4.frozen 5
  have f6 := hr4.frozen 6
  have f7 := hr4.frozen 7
  obtain ⟨k0, k1, k2, k3, k4, k5, k6, k7⟩ : W3.cell? ⟨b4, 0, none⟩ = some (.bool false) ∧ W3.cell? ⟨b4, 1, none⟩ = some (.bool false) ∧ W3.cell? ⟨b4, 2, none⟩ = some (.bool false) ∧ W3.cell? ⟨b4, 3, none⟩ = some (.bool false) ∧ W3.cell? ⟨b4, 4, none⟩ = some (.bool false) ∧ W3.cell? ⟨b4, 5, none⟩ = some (.bool false) ∧ W3.cell? ⟨b4, 6, none⟩ = some (.bool false) ∧ W3.cell? ⟨b4, 7, none⟩ = some (.int .i64 0) := ⟨hr4.cell 0, hr4.cell 1, hr4.cell 2, hr4.cell 3, hr4.cell 4, hr4.cell 5, hr4.cell 6, hr4.cell 7⟩
  have HG3 := Lib.hid hg43
  have HR43 := Lib.hid hr4
  clear hW3 hb8 hr8 hg2 hg3 hr4 hg43 HR4 HG1
  go_region
  all_goals
    go_wp2_with fail
    have hF := ((row_fill8 HR43.out a0 a1 a2 a3 a4 a5 a6 nn).grows ((Grows.refl _).drew)).cell
    unfold World.fill8 at hF
    exact bodyPost_ret (v := .tuple #[.agg #[.bool a0, .bool a1, .bool a2, .bool a3, .bool a4, .bool a5, .bool a6, .int .i64 nn], .bool rb]) (by simp [results, Tryd.results51, go_sem, hF]) rfl ⟨by rw [HEN.out, ← HGK'.out], (grows_fill8 HG3.out (by have := HB4.out; omega) _ _ _ _ _ _ _ _).drew⟩
end Go.Proofs.YtlchlklbjocliaaDoor

/- The package stage: mapped, Look, Protect. -/
namespace Go.Proofs.YtlchlklbjocliaaDoor
open Go Go.RowKit
set_option linter.unusedSimpArgs false
set_option linter.unusedVariables false
set_option maxRecDepth 100000
/-- The number of a page's entry, as it stands; 0: there is none. -/
def rdP (N : Nat) (B : Nat → Nat) (L : Int → Option Int) (page : Nat) : Nat := match L ((page / 32 : Nat) : Int) with
  | some t => gv N B (t.toNat * 256 + 8 * (page % 32))
  | none => 0
theorem entA_no {v : Nat} (h : gok v = false) : entA v = zeroE := by
  have e0 : ∀ k, eb v k = false := fun k => by unfold eb; rw [h]; rfl
  have e1 : ef v = 0 := by unfold ef; rw [h]; rfl
  unfold entA
  rw [e0, e0, e0, e0, e0, e0, e0, e1]
  rfl
theorem entA_zero : entA 0 = zeroE := entA_no gok0
/-- Tables that are open: all that the walks want. -/
structure StAt (w : World) (tb pm pf bl s q N : Nat) (g root : Int) (c : Nat → Int) (L : Int → Option Int) (B : Nat → Nat) : Prop where
  tab : TbAt w tb pm pf bl g root true c
  map : LMap w bl s L
  mem : Mem w pm q N B
  wid : Widths w
  pla : Places w
  low : ∀ k t, L k = some t → 0 ≤ t ∧ t < 65536
  sep : q ≠ tb ∧ q ≠ bl ∧ q ≠ 1 ∧ q ≠ 0
theorem StAt.grows {w w' : World} {tb pm pf bl s q N : Nat} {g root : Int} {c : Nat → Int} {L : Int → Option Int} {B : Nat → Nat} (h : StAt w tb pm pf bl s q N g root c L B) (hg : Grows w w') : StAt w' tb pm pf bl s q N g root c L B :=
  ⟨h.tab.grows hg, h.map.grows hg, MemAt.grows h.mem hg, h.wid.grows hg, h.pla.grows hg, h.low, h.sep⟩
theorem Widths.chg {w w' : World} {q : Nat} (h : Widths w) (hc : Chg [q] w w') (hq : q ≠ 1) : Widths w' :=
  ⟨hc.lt h.1, fun i => by rw [hc.cell h.1 (by simp; exact fun e => hq e.symm)]; exact h.2 i⟩
theorem Places.chg {w w' : World} {q : Nat} (h : Places w) (hc : Chg [q] w w') (hq : q ≠ 0) : Places w' :=
  ⟨hc.lt h.1, fun i => by rw [hc.cell h.1 (by simp; exact fun e => hq e.symm)]; exact h.2 i⟩
/-- The memory was written, nothing else. -/
theorem StAt.wrote {w w' : World} {tb pm pf bl s q N : Nat} {g root : Int} {c : Nat → Int} {L : Int → Option Int} {B C : Nat → Nat} (h : StAt w tb pm pf bl s q N g root c L B) (hM : Mem w' pm q N C) (hc : Chg [q] w w') : StAt w' tb pm pf bl s q N g root c L C :=
  ⟨h.tab.chg hc (by simp; exact fun e => h.sep.1 e.symm), h.map.of_block (hc.get h.map.lt (by simp; exact fun e => h.sep.2.1 e.symm)), hM, h.wid.chg hc h.sep.2.2.1, h.pla.chg hc h.sep.2.2.2, h.low, h.sep⟩
theorem sget_any {w : World} {tb pm pf bl s q N : Nat} {g root : Int} {c : Nat → Int} {L : Int → Option Int} {B : Nat → Nat} (h : StAt w tb pm pf bl s q N g root c L B) {page : Nat} (hp : page < 1024) :
    Calls Tryd.prog 51 #[.pointer (some ⟨tb, 0, none⟩), .int .i64 page] w fun r w' => r = .returned (.tuple #[.agg (entA (rdP N B L page)), .bool (gok (rdP N B L page))]) ∧ Grows w w' := by
  unfold rdP
  cases hl : L ((page / 32 : Nat) : Int) with
  | none =>
    rw [entA_zero, gok0]
    exact get_none h.tab h.map hp hl
  | some t =>
    have ht := h.low _ _ hl
    obtain ⟨t, rfl⟩ := Int.eq_ofNat_of_zero_le ht.1
    exact get_some h.tab h.map h.mem h.wid h.pla hp hl (by omega)
theorem row_fillz {w : World} {b : Nat} {t : TypeId} (h : Row w b zeroE t) (a0 a1 a2 a3 a4 a5 a6 : Bool) (n : Int) :
    Row ((((((((w.setCell ⟨b, 0, none⟩ (.bool a0)).setCell ⟨b, 1, none⟩ (.bool a1)).setCell ⟨b, 2, none⟩ (.bool a2)).setCell ⟨b, 3, none⟩ (.bool a3)).setCell ⟨b, 4, none⟩ (.bool a4)).setCell ⟨b, 5, none⟩ (.bool a5)).setCell ⟨b, 6, none⟩ (.bool a6)).setCell ⟨b, 7, none⟩ (.int .i64 n)) b #[.bool a0, .bool a1, .bool a2, .bool a3, .bool a4, .bool a5, .bool a6, .int .i64 n] t := row_fill8 h a0 a1 a2 a3 a4 a5 a6 n
set_option maxHeartbeats 1000000 in
theorem mapped_any {w : World} {tb pm pf bl s q N : Nat} {g root : Int} {c : Nat → Int} {L : Int → Option Int} {B : Nat → Nat} (h : StAt w tb pm pf bl s q N g root c L B) {page : Nat} (hp : page < 1024) :
    Calls Tryd.prog 44 #[.pointer (some ⟨tb, 0, none⟩), .int .i64 page] w fun r w' => r = .returned (.tuple #[.agg (entA (rdP N B L page)), .int .i64 (if gok (rdP N B L page) then 0 else 14)]) ∧ Grows w w' := by
  have hge := fun W (hg : Grows w W) => sget_any (h.grows hg) hp
  generalize rdP N B L page = v at *
  have HGK := Lib.hid (show gok v = false → entA v = zeroE from entA_no)
  generalize gok v = gk at *
  have HGE := Lib.hid hge
  have hus := usable_open (h.tab.grows ((Grows.refl w).alloc (Obj.cells zeroE 111)))
  have hip := fun W => isPage_ok hp W
  unfold zeroE at hus
  clear h hp hge
  cases gk
  · go_enter Tryd.func44, Tryd.ntmps44
    go_wp2_with fail
    refine (hus).mono ?_
    rintro _ _ ⟨rfl, hw⟩
    rw [hw]
    clear hw
    clear hus
    go_wp2_with fail
    refine (hip _).mono ?_
    rintro _ _ ⟨rfl, hw⟩
    rw [hw]
    clear hw
    clear hip
    go_wp2_with fail
    refine (HGE.out _ ((Grows.refl w).alloc _)).mono ?_
    rintro _ w1 ⟨rfl, hg1⟩
    have hg1' := ((Grows.refl w).alloc (Obj.cells zeroE 111)).trans hg1
    have hr4 : Row w1 w.heap.size zeroE 111 := (Row.new w zeroE 111).grows hg1
    obtain ⟨b4, hb4⟩ : ∃ b, b = w.heap.size := ⟨_, rfl⟩
    rw [← hb4] at hr4 ⊢
    have HB4 := Lib.hid (show w.heap.size ≤ b4 by omega)
    have HG1 := Lib.hid hg1'
    have HR4 := Lib.hid hr4
    clear hg1 hg1' hr4 hb4 HGE
    have HEN := Lib.hid (show entA v = #[.bool (eb v 0), .bool (eb v 1), .bool (eb v 2), .bool (eb v 3), .bool (eb v 4), .bool (eb v 5), .bool (eb v 6), .int .i64 (ef v)] from rfl)
    rw [HEN.out]
    generalize eb v 0 = a0 at *
    generalize eb v 1 = a1 at *
    generalize eb v 2 = a2 at *
    generalize eb v 3 = a3 at *
    generalize eb v 4 = a4 at *
    generalize eb v 5 = a5 at *
    generalize eb v 6 = a6 at *
    generalize (ef v : Int) = nn at *
    go_upto_region 7 with fail
    obtain ⟨W3, hW3⟩ : ∃ W3, W3 = w1.alloc (Obj.cells #[.bool a0, .bool a1, .bool a2, .bool a3, .bool a4, .bool a5, .bool a6, .int .i64 nn] 111) := ⟨_, rfl⟩
    obtain ⟨b8, hb8⟩ : ∃ b, b = w1.heap.size := ⟨_, rfl⟩
    rw [← hW3, ← hb8]
    have hr8 : Row W3 b8 #[.bool a0, .bool a1, .bool a2, .bool a3, .bool a4, .bool a5, .bool a6, .int .i64 nn] 111 := by rw [hW3]; exact Row.new_at _ _ _ hb8
    have hg3 : Grows w1 W3 := by rw [hW3]; exact (Grows.refl _).alloc _
    have hr4 := HR4.out.grows hg3
    have HG3 := Lib.hid (HG1.out.trans hg3)
    have hbne : b4 ≠ b8 := by have := HR4.out.lt; omega
    have l4 := hr4.lt
    have l8 := hr8.lt
    obtain ⟨x0, x1, x2, x3, x4, x5, x6, x7⟩ : W3.cell? ⟨b8, 0, none⟩ = some (.bool a0) ∧ W3.cell? ⟨b8, 1, none⟩ = some (.bool a1) ∧ W3.cell? ⟨b8, 2, none⟩ = some (.bool a2) ∧ W3.cell? ⟨b8, 3, none⟩ = some (.bool a3) ∧ W3.cell? ⟨b8, 4, none⟩ = some (.bool a4) ∧ W3.cell? ⟨b8, 5, none⟩ = some (.bool a5) ∧ W3.cell? ⟨b8, 6, none⟩ = some (.bool a6) ∧ W3.cell? ⟨b8, 7, none⟩ = some (.int .i64 nn) := ⟨hr8.cell 0, hr8.cell 1, hr8.cell 2, hr8.cell 3, hr8.cell 4, hr8.cell 5, hr8.cell 6, hr8.cell 7⟩
    have f0 := hr4.frozen 0
    have f1 := hr4.frozen 1
    have f2 := hr4.frozen 2
    have f3 := hr4.frozen 3
    have f4 := hr4.frozen 4
    have f5 := hr4.frozen 5
    have f6 := hr4.frozen 6
    have f7 := hr4.frozen 7
    obtain ⟨k0, k1, k2, k3, k4, k5, k6, k7⟩ : W3.cell? ⟨b4, 0, none⟩ = some (.bool false) ∧ W3.cell? ⟨b4, 1, none⟩ = some (.bool false) ∧ W3.cell? ⟨b4, 2, none⟩ = some (.bool false) ∧ W3.cell? ⟨b4, 3, none⟩ = some (.bool false) ∧ W3.cell? ⟨b4, 4, none⟩ = some (.bool false) ∧ W3.cell? ⟨b4, 5, none⟩ = some (.bool false) ∧ W3.cell? ⟨b4, 6, none⟩ = some (.bool false) ∧ W3.cell? ⟨b4, 7, none⟩ = some (.int .i64 0) := ⟨hr4.cell 0, hr4.cell 1, hr4.cell 2, hr4.cell 3, hr4.cell 4, hr4.cell 5, hr4.cell 6, hr4.cell 7⟩
    have HR43 := Lib.hid hr4
    clear hW3 hb8 hr8 hg3 hr4 HR4 HG1
    have HZ := Lib.hid (HGK.out trivial)
    go_wp2_with fail
    have hF := (row_fillz HR43.out false false false false false false false 0).cell
    exact bodyPost_ret (v := .tuple #[.agg zeroE, .int .i64 14]) (by simp [results, Tryd.results44, go_sem, hF, zeroE]) rfl ⟨by rw [HZ.out], grows_fill8 HG3.out HB4.out _ _ _ _ _ _ _ _⟩
  · go_enter Tryd.func44, Tryd.ntmps44
    go_wp2_with fail
    refine (hus).mono ?_
    rintro _ _ ⟨rfl, hw⟩
    rw [hw]
    clear hw
    clear hus
    go_wp2_with fail
    refine (hip _).mono ?_
    rintro _ _ ⟨rfl, hw⟩
    rw [hw]
    clear hw
    clear hip
    go_wp2_with fail
    refine (HGE.out _ ((Grows.refl w).alloc _)).mono ?_
    rintro _ w1 ⟨rfl, hg1⟩
    have hg1' := ((Grows.refl w).alloc (Obj.cells zeroE 111)).trans hg1
    have hr4 : Row w1 w.heap.size zeroE 111 := (Row.new w zeroE 111).grows hg1
    obtain ⟨b4, hb4⟩ : ∃ b, b = w.heap.size := ⟨_, rfl⟩
    rw [← hb4] at hr4 ⊢
    have HB4 := Lib.hid (show w.heap.size ≤ b4 by omega)
    have HG1 := Lib.hid hg1'
    have HR4 := Lib.hid hr4
    clear hg1 hg1' hr4 hb4 HGE
    have HEN := Lib.hid (show entA v = #[.bool (eb v 0), .bool (eb v 1), .bool (eb v 2), .bool (eb v 3), .bool (eb v 4), .bool (eb v 5), .bool (eb v 6), .int .i64 (ef v)] from rfl)
    rw [HEN.out]
    generalize eb v 0 = a0 at *
    generalize eb v 1 = a1 at *
    generalize eb v 2 = a2 at *
    generalize eb v 3 = a3 at *
    generalize eb v 4 = a4 at *
    generalize eb v 5 = a5 at *
    generalize eb v 6 = a6 at *
    generalize (ef v : Int) = nn at *
    go_upto_region 7 with fail
    obtain ⟨W3, hW3⟩ : ∃ W3, W3 = w1.alloc (Obj.cells #[.bool a0, .bool a1, .bool a2, .bool a3, .bool a4, .bool a5, .bool a6, .int .i64 nn] 111) := ⟨_, rfl⟩
    obtain ⟨b8, hb8⟩ : ∃ b, b = w1.heap.size := ⟨_, rfl⟩
    rw [← hW3, ← hb8]
    have hr8 : Row W3 b8 #[.bool a0, .bool a1, .bool a2, .bool a3, .bool a4, .bool a5, .bool a6, .int .i64 nn] 111 := by rw [hW3]; exact Row.new_at _ _ _ hb8
    have hg3 : Grows w1 W3 := by rw [hW3]; exact (Grows.refl _).alloc _
    have hr4 := HR4.out.grows hg3
    have HG3 := Lib.hid (HG1.out.trans hg3)
    have hbne : b4 ≠ b8 := by have := HR4.out.lt; omega
    have l4 := hr4.lt
    have l8 := hr8.lt
    obtain ⟨x0, x1, x2, x3, x4, x5, x6, x7⟩ : W3.cell? ⟨b8, 0, none⟩ = some (.bool a0) ∧ W3.cell? ⟨b8, 1, none⟩ = some (.bool a1) ∧ W3.cell? ⟨b8, 2, none⟩ = some (.bool a2) ∧ W3.cell? ⟨b8, 3, none⟩ = some (.bool a3) ∧ W3.cell? ⟨b8, 4, none⟩ = some (.bool a4) ∧ W3.cell? ⟨b8, 5, none⟩ = some (.bool a5) ∧ W3.cell? ⟨b8, 6, none⟩ = some (.bool a6) ∧ W3.cell? ⟨b8, 7, none⟩ = some (.int .i64 nn) := ⟨hr8.cell 0, hr8.cell 1, hr8.cell 2, hr8.cell 3, hr8.cell 4, hr8.cell 5, hr8.cell 6, hr8.cell 7⟩
    have f0 := hr4.frozen 0
    have f1 := hr4.frozen 1
    have f2 := hr4.frozen 2
    have f3 := hr4.frozen 3
    have f4 := hr4.frozen 4
    have f5 := hr4.frozen 5
    have f6 := hr4.frozen 6
    have f7 := hr4.frozen 7
    obtain ⟨k0, k1, k2, k3, k4, k5, k6, k7⟩ : W3.cell? ⟨b4, 0, none⟩ = some (.bool false) ∧ W3.cell? ⟨b4, 1, none⟩ = some (.bool false) ∧ W3.cell? ⟨b4, 2, none⟩ = some (.bool false) ∧ W3.cell? ⟨b4, 3, none⟩ = some (.bool false) ∧ W3.cell? ⟨b4, 4, none⟩ = some (.bool false) ∧ W3.cell? ⟨b4, 5, none⟩ = some (.bool false) ∧ W3.cell? ⟨b4, 6, none⟩ = some (.bool false) ∧ W3.cell? ⟨b4, 7, none⟩ = some (.int .i64 0) := ⟨hr4.cell 0, hr4.cell 1, hr4.cell 2, hr4.cell 3, hr4.cell 4, hr4.cell 5, hr4.cell 6, hr4.cell 7⟩
    have HR43 := Lib.hid hr4
    clear hW3 hb8 hr8 hg3 hr4 HR4 HG1
    go_wp2_with fail
    have hF := (row_fillz HR43.out a0 a1 a2 a3 a4 a5 a6 nn).cell
    exact bodyPost_ret (v := .tuple #[.agg #[.bool a0, .bool a1, .bool a2, .bool a3, .bool a4, .bool a5, .bool a6, .int .i64 nn], .int .i64 0]) (by simp [results, Tryd.results44, go_sem, hF]) rfl ⟨by rw [HEN.out], grows_fill8 HG3.out HB4.out _ _ _ _ _ _ _ _⟩
theorem row_putb3 {w : World} {b : Nat} {t : TypeId} {x0 x1 x2 : Value} (h : Row w b #[x0, x1, x2] t) (x y z : Bool) :
    Row (((w.setCell ⟨b, 0, none⟩ (.bool x)).setCell ⟨b, 1, none⟩ (.bool y)).setCell ⟨b, 2, none⟩ (.bool z)) b #[.bool x, .bool y, .bool z] t := by
  have h0 := row_setCell h (i := 0) (by simp) (.bool x)
  have h1 := row_setCell h0 (i := 1) (by simp) (.bool y)
  have h2 := row_setCell h1 (i := 2) (by simp) (.bool z)
  simpa using h2
set_option maxHeartbeats 1000000 in
theorem Look_any {w : World} {tb pm pf bl s q N : Nat} {g root : Int} {c : Nat → Int} {L : Int → Option Int} {B : Nat → Nat} (h : StAt w tb pm pf bl s q N g root c L B) {page : Nat} (hp : page < 1024) :
    Calls Tryd.prog 13 #[.pointer (some ⟨tb, 0, none⟩), .int .i64 page] w fun r w' => r = .returned (.tuple #[.int .i64 (ef (rdP N B L page)), .agg #[.bool (eb (rdP N B L page) 1), .bool (eb (rdP N B L page) 2), .bool (eb (rdP N B L page) 3)], .bool (gok (rdP N B L page))]) ∧ Grows w w' := by
  have hma := fun W (hg : Grows w W) => mapped_any (h.grows hg) hp
  generalize rdP N B L page = v at *
  have HNO := Lib.hid (show gok v = false → ef v = 0 ∧ eb v 1 = false ∧ eb v 2 = false ∧ eb v 3 = false from fun hh => ⟨by unfold ef; rw [hh]; rfl, by unfold eb; rw [hh]; rfl, by unfold eb; rw [hh]; rfl, by unfold eb; rw [hh]; rfl⟩)
  have hen : entA v = #[.bool (eb v 0), .bool (eb v 1), .bool (eb v 2), .bool (eb v 3), .bool (eb v 4), .bool (eb v 5), .bool (eb v 6), .int .i64 (ef v)] := rfl
  rw [hen] at hma
  clear hen
  generalize gok v = gk at *
  have HMA := Lib.hid hma
  clear h hp hma
  cases gk
  · obtain ⟨z0, z1, z2, z3⟩ := HNO.out rfl
    rw [z0, z1, z2, z3] at HMA
    rw [z0, z1, z2, z3]
    clear z0 z1 z2 z3 HNO
    go_enter Tryd.func13, Tryd.ntmps13
    go_wp2_with fail
    refine (HMA.out _ ((Grows.refl w).alloc _)).mono ?_
    rintro _ w1 ⟨rfl, hg1⟩
    have hg1' := ((Grows.refl w).alloc (Obj.cells #[.bool false, .bool false, .bool false] 23)).trans hg1
    have hr5 : Row w1 w.heap.size #[.bool false, .bool false, .bool false] 23 := (Row.new w #[.bool false, .bool false, .bool false] 23).grows hg1
    obtain ⟨b5, hb5⟩ : ∃ b, b = w.heap.size := ⟨_, rfl⟩
    rw [← hb5] at hr5 ⊢
    have HB5 := Lib.hid (show w.heap.size ≤ b5 by omega)
    have HG1 := Lib.hid hg1'
    have HR5 := Lib.hid hr5
    clear hg1 hg1' hr5 hb5 HMA
    go_upto_region 2 with fail
    obtain ⟨W3, hW3⟩ : ∃ W3, W3 = w1.alloc (Obj.cells #[.bool (eb v 0), .bool false, .bool false, .bool false, .bool (eb v 4), .bool (eb v 5), .bool (eb v 6), .int .i64 0] 111) := ⟨_, rfl⟩
    obtain ⟨b7, hb7⟩ : ∃ b, b = w1.heap.size := ⟨_, rfl⟩
    rw [← hW3, ← hb7]
    have HR7 := Lib.hid (show Row W3 b7 #[.bool (eb v 0), .bool false, .bool false, .bool false, .bool (eb v 4), .bool (eb v 5), .bool (eb v 6), .int .i64 0] 111 by rw [hW3]; exact Row.new_at _ _ _ hb7)
    have hg3 : Grows w1 W3 := by rw [hW3]; exact (Grows.refl _).alloc _
    have HR53 := Lib.hid (HR5.out.grows hg3)
    have HG3 := Lib.hid (HG1.out.trans hg3)
    have hbne : b5 ≠ b7 := by have := HR5.out.lt; omega
    clear hW3 hb7 hg3 HR5 HG1
    have l5 := HR53.out.lt
    have l7 := HR7.out.lt
    have y1 : W3.cell? ⟨b7, 1, none⟩ = some (.bool false) := HR7.out.cell 1
    have y2 : W3.cell? ⟨b7, 2, none⟩ = some (.bool false) := HR7.out.cell 2
    have y3 : W3.cell? ⟨b7, 3, none⟩ = some (.bool false) := HR7.out.cell 3
    have y7 : W3.cell? ⟨b7, 7, none⟩ = some (.int .i64 0) := HR7.out.cell 7
    have f0 := HR53.out.frozen 0
    have f1 := HR53.out.frozen 1
    have f2 := HR53.out.frozen 2
    have k0 : W3.cell? ⟨b5, 0, none⟩ = some (.bool false) := HR53.out.cell 0
    have k1 : W3.cell? ⟨b5, 1, none⟩ = some (.bool false) := HR53.out.cell 1
    have k2 : W3.cell? ⟨b5, 2, none⟩ = some (.bool false) := HR53.out.cell 2
    go_wp2_with fail
    have hF := (row_putb3 HR53.out false false false).cell
    exact bodyPost_ret (v := .tuple #[.int .i64 0, .agg #[.bool false, .bool false, .bool false], .bool false]) (by simp [results, Tryd.results13, go_sem, hF]) rfl ⟨rfl, ((HG3.out.setCell HB5.out _).setCell HB5.out _).setCell HB5.out _⟩
  · clear HNO
    go_enter Tryd.func13, Tryd.ntmps13
    go_wp2_with fail
    refine (HMA.out _ ((Grows.refl w).alloc _)).mono ?_
    rintro _ w1 ⟨rfl, hg1⟩
    have hg1' := ((Grows.refl w).alloc (Obj.cells #[.bool false, .bool false, .bool false] 23)).trans hg1
    have hr5 : Row w1 w.heap.size #[.bool false, .bool false, .bool false] 23 := (Row.new w #[.bool false, .bool false, .bool false] 23).grows hg1
    obtain ⟨b5, hb5⟩ : ∃ b, b = w.heap.size := ⟨_, rfl⟩
    rw [← hb5] at hr5 ⊢
    have HB5 := Lib.hid (show w.heap.size ≤ b5 by omega)
    have HG1 := Lib.hid hg1'
    have HR5 := Lib.hid hr5
    clear hg1 hg1' hr5 hb5 HMA
    go_upto_region 2 with fail
    obtain ⟨W3, hW3⟩ : ∃ W3, W3 = w1.alloc (Obj.cells #[.bool (eb v 0), .bool (eb v 1), .bool (eb v 2), .bool (eb v 3), .bool (eb v 4), .bool (eb v 5), .bool (eb v 6), .int .i64 (ef v)] 111) := ⟨_, rfl⟩
    obtain ⟨b7, hb7⟩ : ∃ b, b = w1.heap.size := ⟨_, rfl⟩
    rw [← hW3, ← hb7]
    have HR7 := Lib.hid (show Row W3 b7 #[.bool (eb v 0), .bool (eb v 1), .bool (eb v 2), .bool (eb v 3), .bool (eb v 4), .bool (eb v 5), .bool (eb v 6), .int .i64 (ef v)] 111 by rw [hW3]; exact Row.new_at _ _ _ hb7)
    have hg3 : Grows w1 W3 := by rw [hW3]; exact (Grows.refl _).alloc _
    have HR53 := Lib.hid (HR5.out.grows hg3)
    have HG3 := Lib.hid (HG1.out.trans hg3)
    have hbne : b5 ≠ b7 := by have := HR5.out.lt; omega
    clear hW3 hb7 hg3 HR5 HG1
    have l5 := HR53.out.lt
    have l7 := HR7.out.lt
    have y1 : W3.cell? ⟨b7, 1, none⟩ = some (.bool (eb v 1)) := HR7.out.cell 1
    have y2 : W3.cell? ⟨b7, 2, none⟩ = some (.bool (eb v 2)) := HR7.out.cell 2
    have y3 : W3.cell? ⟨b7, 3, none⟩ = some (.bool (eb v 3)) := HR7.out.cell 3
    have y7 : W3.cell? ⟨b7, 7, none⟩ = some (.int .i64 (ef v)) := HR7.out.cell 7
    have f0 := HR53.out.frozen 0
    have f1 := HR53.out.frozen 1
    have f2 := HR53.out.frozen 2
    have k0 : W3.cell? ⟨b5, 0, none⟩ = some (.bool false) := HR53.out.cell 0
    have k1 : W3.cell? ⟨b5, 1, none⟩ = some (.bool false) := HR53.out.cell 1
    have k2 : W3.cell? ⟨b5, 2, none⟩ = some (.bool false) := HR53.out.cell 2
    go_wp2_with fail
    go_region
    all_goals
      go_wp2_with fail
      have hF := ((row_putb3 HR53.out (eb v 1) (eb v 2) (eb v 3)).grows ((Grows.refl _).drew)).cell
      exact bodyPost_ret (v := .tuple #[.int .i64 (ef v), .agg #[.bool (eb v 1), .bool (eb v 2), .bool (eb v 3)], .bool true]) (by simp [results, Tryd.results13, go_sem, hF]) rfl ⟨rfl, (((HG3.out.setCell HB5.out _).setCell HB5.out _).setCell HB5.out _).drew⟩
theorem StAt.look {w : World} {tb pm pf bl s q N : Nat} {g root : Int} {c : Nat → Int} {L : Int → Option Int} {B : Nat → Nat} (h : StAt w tb pm pf bl s q N g root c L B) {k : Nat} (hk : k < 1024) {t : Int} (hl : L (k : Int) = some t) :
    (Instr.lookup 29 (.map (some bl)) (.int .i64 k) false).run Tryd.prog w = .ok (.int .i64 t) w := by
  have := (h.map.look Tryd.underlying3 Tryd.underlying3 Tryd.underlying29 (zero_int' w) (K := (k : Int)) (wf_of (by omega) (by omega))).1
  rw [hl] at this
  exact this
theorem Protect_bad {w : World} {tb pm pf bl s q N : Nat} {g root : Int} {c : Nat → Int} {L : Int → Option Int} {B : Nat → Nat} (h : StAt w tb pm pf bl s q N g root c L B) (page : Int) (r x1 x2 : Bool) (hr : rightR r x1 x2 = false) :
    Calls Tryd.prog 17 #[.pointer (some ⟨tb, 0, none⟩), .int .i64 page, .agg #[.bool r, .bool x1, .bool x2]] w fun e w' => e = .returned (.int .i64 2) ∧ Grows w w' := by
  have HH := Lib.hid h
  have hsr := fun W => srights_any r x1 x2 W
  rw [hr] at hsr
  clear h hr
  go_enter Tryd.func17, Tryd.ntmps17
  go_wp2_with fail
  refine (usable_open (HH.out.tab.grows ((Grows.refl w).alloc _))).mono ?_
  rintro _ _ ⟨rfl, hw⟩
  rw [hw]
  clear hw
  go_wp2_with fail
  refine (hsr _).mono ?_
  rintro _ w1 ⟨rfl, hg1⟩
  have HG := Lib.hid (((Grows.refl w).alloc (Obj.cells #[.bool r, .bool x1, .bool x2] 23)).trans hg1)
  clear hsr hg1
  go_wp2_with fail
  go_ret
  exact ⟨rfl, HG.out⟩
set_option maxHeartbeats 1000000 in
theorem Protect_none {w : World} {tb pm pf bl s q N : Nat} {g root : Int} {c : Nat → Int} {L : Int → Option Int} {B : Nat → Nat} (h : StAt w tb pm pf bl s q N g root c L B) {page : Nat} (hp : page < 1024) (r x1 x2 : Bool) (hr : rightR r x1 x2 = true) (hg : gok (rdP N B L page) = false) :
    Calls Tryd.prog 17 #[.pointer (some ⟨tb, 0, none⟩), .int .i64 page, .agg #[.bool r, .bool x1, .bool x2]] w fun e w' => e = .returned (.int .i64 14) ∧ Grows w w' := by
  have HH := Lib.hid h
  have hsr := fun W => srights_any r x1 x2 W
  rw [hr] at hsr
  have hma := fun W (hg : Grows w W) => mapped_any (h.grows hg) hp
  rw [hg, entA_no hg] at hma
  unfold zeroE at hma
  have HMA := Lib.hid hma
  clear h hr hg hma hp
  go_enter Tryd.func17, Tryd.ntmps17
  go_wp2_with fail
  refine (usable_open (HH.out.tab.grows ((Grows.refl w).alloc _))).mono ?_
  rintro _ _ ⟨rfl, hw⟩
  rw [hw]
  clear hw
  go_wp2_with fail
  refine (hsr _).mono ?_
  rintro _ w1 ⟨rfl, hg1⟩
  have HG := Lib.hid (((Grows.refl w).alloc (Obj.cells #[.bool r, .bool x1, .bool x2] 23)).trans hg1)
  clear hsr hg1
  go_wp2_with fail
  refine (HMA.out _ HG.out).mono ?_
  rintro _ w2 ⟨rfl, hg2⟩
  have HG2 := Lib.hid (HG.out.trans hg2)
  clear hg2 HG HMA
  go_wp2_with fail
  go_ret
  exact ⟨rfl, HG2.out.alloc _⟩
set_option maxHeartbeats 2000000 in
theorem Protect_ok {w : World} {tb pm pf bl s q N : Nat} {g root : Int} {c : Nat → Int} {L : Int → Option Int} {B : Nat → Nat} (h : StAt w tb pm pf bl s q N g root c L B) {page t : Nat} (hp : page < 1024) (r x1 x2 : Bool) (hr : rightR r x1 x2 = true) (hg : gok (rdP N B L page) = true) (hl : L ((page / 32 : Nat) : Int) = some (t : Int)) (hin : t * 256 + 256 ≤ N) :
    Calls Tryd.prog 17 #[.pointer (some ⟨tb, 0, none⟩), .int .i64 page, .agg #[.bool r, .bool x1, .bool x2]] w fun e w' => e = .returned (.int .i64 0) ∧ Mem w' pm q N (putB B (t * 256 + 8 * (page % 32)) (leB (packN true r x1 x2 true false false (ef (rdP N B L page))) 8)) ∧ Chg [q] w w' := by
  have HH := Lib.hid h
  have hsr := fun W => srights_any r x1 x2 W
  rw [hr] at hsr
  have hma := fun W (hg : Grows w W) => mapped_any (h.grows hg) hp
  have hen : entA (rdP N B L page) = #[.bool (eb (rdP N B L page) 0), .bool (eb (rdP N B L page) 1), .bool (eb (rdP N B L page) 2), .bool (eb (rdP N B L page) 3), .bool (eb (rdP N B L page) 4), .bool (eb (rdP N B L page) 5), .bool (eb (rdP N B L page) 6), .int .i64 (ef (rdP N B L page))] := rfl
  rw [hg, hen] at hma
  have HMA := Lib.hid hma
  have ht := (h.low _ _ hl).2
  obtain ⟨q1, q2, q3, q4⟩ := pageQR hp
  have hlk := fun W (C : Nat → Nat) (h : StAt W tb pm pf bl s q N g root c L C) => h.look (k := page / 32) (by omega) hl
  have hlf := fun W => sleaf_any r x1 x2 (ef (rdP N B L page)) W
  have hpu := fun W (h : StAt W tb pm pf bl s q N g root c L B) => put_any h.tab h.mem h.wid h.pla (t := t) (pl := page % 32) (by omega) (by omega) (by omega) h.sep.1 true r x1 x2 true false false (ef (rdP N B L page))
  unfold pgL at hlf
  have HPU := Lib.hid hpu
  have HLF := Lib.hid hlf
  have HLK := Lib.hid hlk
  generalize rdP N B L page = v at *
  generalize page / 32 = kq at *
  generalize page % 32 = pr at *
  clear h hr hg hma hp hen hl hin hpu hlf hlk
  go_enter Tryd.func17, Tryd.ntmps17
  go_wp2_with fail
  refine (usable_open (HH.out.tab.grows ((Grows.refl w).alloc _))).mono ?_
  rintro _ _ ⟨rfl, hw⟩
  rw [hw]
  clear hw
  go_wp2_with fail
  refine (hsr _).mono ?_
  rintro _ w1 ⟨rfl, hg1⟩
  obtain ⟨b5, hb5⟩ : ∃ b, b = w.heap.size := ⟨_, rfl⟩
  have hq5 : b5 ≠ q := by have := HH.out.mem.qlt; omega
  have HR5 := Lib.hid (show Row w1 b5 #[.bool r, .bool x1, .bool x2] 23 by rw [hb5]; exact (Row.new w #[.bool r, .bool x1, .bool x2] 23).grows hg1)
  have HG := Lib.hid (((Grows.refl w).alloc (Obj.cells #[.bool r, .bool x1, .bool x2] 23)).trans hg1)
  rw [← hb5]
  clear hsr hg1 hb5
  go_wp2_with fail
  refine (HMA.out _ HG.out).mono ?_
  rintro _ w2 ⟨rfl, hg2⟩
  have HG2 := Lib.hid (HG.out.trans hg2)
  have HR52 := Lib.hid (HR5.out.grows hg2)
  clear hg2 HG HMA HR5
  go_upto_region 5 with fail
  obtain ⟨W3, hW3⟩ : ∃ W3, W3 = w2.alloc (Obj.cells #[.bool (eb v 0), .bool (eb v 1), .bool (eb v 2), .bool (eb v 3), .bool (eb v 4), .bool (eb v 5), .bool (eb v 6), .int .i64 (ef v)] 111) := ⟨_, rfl⟩
  obtain ⟨b7, hb7⟩ : ∃ b, b = w2.heap.size := ⟨_, rfl⟩
  rw [← hW3, ← hb7]
  have HR7 := Lib.hid (show Row W3 b7 #[.bool (eb v 0), .bool (eb v 1), .bool (eb v 2), .bool (eb v 3), .bool (eb v 4), .bool (eb v 5), .bool (eb v 6), .int .i64 (ef v)] 111 by rw [hW3]; exact Row.new_at _ _ _ hb7)
  have hg3 : Grows w2 W3 := by rw [hW3]; exact (Grows.refl _).alloc _
  have hq7 : b7 ≠ q := by have := (HH.out.grows HG2.out).mem.qlt; omega
  have HR53 := Lib.hid (HR52.out.grows hg3)
  have HG3 := Lib.hid (HG2.out.trans hg3)
  have HS3 := Lib.hid (HH.out.grows HG3.out)
  have hsep := HS3.out.sep
  have hltt := HS3.out.tab.row.lt
  have l5 := HR53.out.lt
  have l7 := HR7.out.lt
  clear hW3 hb7 hg3 HR52 HG2 HH
  have HSG := Lib.hid (fun (w' : World) (C : Nat → Nat) (hs : StAt w' tb pm pf bl s q N g root c L C) (h7 : Row w' b7 #[.bool (eb v 0), .bool (eb v 1), .bool (eb v 2), .bool (eb v 3), .bool (eb v 4), .bool (eb v 5), .bool (eb v 6), .int .i64 (ef v)] 111) (h5 : Row w' b5 #[.bool r, .bool x1, .bool x2] 23) => (⟨hs.tab.cells.2.2.2.2.2.1, HLK.out w' C hs, h7.cell 7, h5.cell 0, h5.cell 1, h5.cell 2⟩ : w'.cell? ⟨tb, 5, none⟩ = some (.map (some bl)) ∧ (Instr.lookup 29 (.map (some bl)) (.int .i64 kq) false).run Tryd.prog w' = .ok (.int .i64 t) w' ∧ w'.cell? ⟨b7, 7, none⟩ = some (.int .i64 (ef v)) ∧ w'.cell? ⟨b5, 0, none⟩ = some (.bool r) ∧ w'.cell? ⟨b5, 1, none⟩ = some (.bool x1) ∧ w'.cell? ⟨b5, 2, none⟩ = some (.bool x2)))
  go_region_held3 (fun w' => w'.cell? ⟨tb, 5, none⟩ = some (.map (some bl)) ∧ (Instr.lookup 29 (.map (some bl)) (.int .i64 kq) false).run Tryd.prog w' = .ok (.int .i64 t) w' ∧ w'.cell? ⟨b7, 7, none⟩ = some (.int .i64 (ef v)) ∧ w'.cell? ⟨b5, 0, none⟩ = some (.bool r) ∧ w'.cell? ⟨b5, 1, none⟩ = some (.bool x1) ∧ w'.cell? ⟨b5, 2, none⟩ = some (.bool x2)) (first
    | with_reducible exact HSG.out _ _ ((HS3.out.grows HG5.out).wrote HM6.out HC6.out) ((HR7.out.grows HG5.out).chg HC6.out (by simp; exact hq7)) ((HR53.out.grows HG5.out).chg HC6.out (by simp; exact hq5))
    | with_reducible exact HSG.out _ _ (HS3.out.grows HG5.out) (HR7.out.grows HG5.out) (HR53.out.grows HG5.out)
    | with_reducible exact HSG.out _ _ (HS3.out.grows ((Grows.refl _).drew)) (HR7.out.grows ((Grows.refl _).drew)) (HR53.out.grows ((Grows.refl _).drew))) (first
    | (go_at_call 53; refine (HLF.out _).mono ?_; rintro _ w5 ⟨rfl, hg5⟩
       have HG5 : Hid (Grows W3 w5) := Lib.hid (((Grows.refl _).drew).trans hg5)
       clear hg5)
    | (go_at_call 45; refine (HPU.out _ (HS3.out.grows HG5.out)).mono ?_; rintro _ w6 ⟨⟨vv, rfl⟩, hM6, hC6⟩
       have HM6 := Lib.hid hM6
       have HC6 := Lib.hid hC6
       clear hM6 hC6))
  all_goals
    clear HSG HLK
    go_wp2_with fail
    go_ret
    exact ⟨rfl, HM6.out, (Chg.of_grows (HG3.out.trans HG5.out)).trans HC6.out⟩
end Go.Proofs.YtlchlklbjocliaaDoor

