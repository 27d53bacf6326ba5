/- The balloon of chapter 25's begin, with all that stands. -/
import Derived.Test.YtlchlklbjocliaaDoorBaD
import Derived.Test.YtlchlklbjocliaaDoorBaN
import Derived.Carry
namespace Go.Proofs.YtlchlklbjocliaaDoor
open Go Go.RowKit
set_option linter.unusedSimpArgs false
set_option linter.unusedVariables false
set_option maxRecDepth 100000
theorem bnew_ok2 {w : World} {p q N fp bt bw n first low tb pm pf bl : Nat} {B T O : Nat → Nat} {quo : Nat → Int} {tg root : Int} {c : Nat → Int} (hM : Mem w p q N B) (hF : FrAt w fp bt bw n first T O quo low) (hN : N / 256 ≠ 0) (ht : TbAt w tb pm pf bl tg root true c) {g : Int} (hg1' : 1 ≤ g) (hg2' : g ≤ 16) {pages : Int} (hp : 0 ≤ pages) (hp2 : pages ≤ 1024) :
    Calls Tryd.prog 33 #[.pointer (some ⟨p, 0, none⟩), .pointer (some ⟨fp, 0, none⟩), .pointer (some ⟨tb, 0, none⟩), .int .i64 g, .int .i64 pages] w fun r w' => ∃ ba bl, r = .returned (.tuple #[.pointer (some ⟨ba, 0, none⟩), .int .i64 0]) ∧ Grows w w' ∧ w.heap.size ≤ ba ∧ w.heap.size ≤ bl ∧ ba ≠ bl ∧
      BaAt w' ba p fp tb g pages bl 0 0 0 (fun _ => none) := by
  have hmm := @run_makeMap Tryd.prog
  have d1 : decide (g < 1) = false := decide_eq_false (by omega)
  have d2 : decide (16 < g) = false := decide_eq_false (by omega)
  have d3 : decide (pages < 0) = false := decide_eq_false (by omega)
  have d4 : decide (1024 < pages) = false := decide_eq_false (by omega)
  have hd : (((N / 256 : Nat) : Int) == 0) = false := by simp; omega
  have hfm := frames_any hM
  have hqu := Quota_bad hF 0 (-1) (Or.inr (by omega))
  go_enter Tryd.func33, Tryd.ntmps33
  go_wp2_with fail
  refine (hfm).mono ?_
  rintro _ _ ⟨rfl, hw⟩
  rw [hw]
  clear hw
  generalize ((N / 256 : Nat) : Int) = NN at *
  go_wp2_with fail
  refine hqu.mono ?_
  rintro _ w1 ⟨rfl, hg1⟩
  go_wp2_with fail
  refine (Protect_arg (ht.grows hg1) (page := -1) (Or.inl (by omega))).mono ?_
  rintro _ w2 ⟨rfl, hg2⟩
  have hg := hg1.trans hg2
  have hs := hg.size
  clear hM hF hfm hqu hg1 hg2 hd
  go_wp2_with fail
  go_ret2
  exact ⟨w2.heap.size + 1, w2.heap.size, rfl, (hg.alloc _).alloc _, by omega, hs, by omega, ⟨Row.new_at _ _ _ (by simp), (BMap.made w2 Tryd.prog 3 4).grows ((Grows.refl _).alloc _), by omega⟩⟩
set_option maxHeartbeats 4000000 in
/-- begin of chapter 25: a balloon, its tables, its frames and its memory, apart from one another. -/
theorem begin2 {W : World} (hT : Widths W) (hP : Places W) {n : Nat} (h1 : 2 ≤ n) (h2 : n ≤ 65536) {pages : Int} (hp : 0 ≤ pages) (hp2 : pages ≤ 1024) :
    Calls Tryd.prog 32 #[.int .i64 n, .int .i64 pages] W fun r w' => ∃ wb pm q fp bt bw tb bl ba bv k : Nat, r = .returned (.pointer (some ⟨wb, 0, none⟩)) ∧ Row w' wb #[.pointer (some ⟨pm, 0, none⟩), .pointer (some ⟨fp, 0, none⟩), .pointer (some ⟨tb, 0, none⟩), .pointer (some ⟨ba, 0, none⟩)] 89 ∧
      BaAt w' ba pm fp tb ((3 : Nat) : Int) pages bv 0 0 0 (fun _ => none) ∧ GuAt w' tb pm fp bl 0 q (n * 256) 3 (k : Int) (fun _ => 0) (fun _ => none) (putB (fun _ => 0) (k * 256) (List.replicate 256 0)) bt bw n 1 (upF (fstT 1) k 1) (upF (fun _ => 0) k 0) (fun _ => (n : Int)) k ∧ (k < n ∧ fstT 1 k = 0) ∧
      (ba ≠ fp ∧ ba ≠ bt ∧ ba ≠ bw ∧ ba ≠ q ∧ ba ≠ tb ∧ ba ≠ pm ∧ ba ≠ bl ∧ ba ≠ 1 ∧ ba ≠ 0) ∧ (bv ≠ fp ∧ bv ≠ bt ∧ bv ≠ bw ∧ bv ≠ q ∧ bv ≠ tb ∧ bv ≠ pm ∧ bv ≠ bl ∧ bv ≠ 1 ∧ bv ≠ 0) ∧ (wb ≠ fp ∧ wb ≠ bt ∧ wb ≠ bw ∧ wb ≠ q ∧ wb ≠ tb ∧ wb ≠ bl ∧ wb ≠ ba ∧ wb ≠ bv) ∧ (W.heap.size ≤ fp ∧ W.heap.size ≤ bt ∧ W.heap.size ≤ bw ∧ W.heap.size ≤ q ∧ W.heap.size ≤ tb ∧ W.heap.size ≤ bl ∧ W.heap.size ≤ ba ∧ W.heap.size ≤ bv ∧ W.heap.size ≤ wb) ∧ Grows W w' := by
  have hn : n * 256 / 256 = n := by omega
  have HTP := Lib.hid (⟨hT, hP, hT.1, hP.1⟩ : Widths W ∧ Places W ∧ 1 < W.heap.size ∧ 0 < W.heap.size)
  clear hT hP
  go_enter Tryd.func32, Tryd.ntmps32
  go_wp2_with fail
  refine (new_ok n (by omega) (by omega) _).mono ?_
  rintro _ w1 ⟨p, q, rfl, hM1, hg1, hp1, hq1, hqp⟩
  have hfn := fnew_ok w1 (n := n) (first := 1) (by omega) (by omega) (by omega)
  go_wp2_with fail
  refine hfn.mono ?_
  rintro _ w2 ⟨fp, bt, bw, rfl, hF2, hg2, hfp, hbt, hbw⟩
  have hM2 := MemAt.grows hM1 hg2
  have hs1 := hg1.size
  have hs2 := hg2.size
  have hpl := hM1.plt
  have hql := hM1.qlt
  have hfl := hF2.row.lt
  have htl := hF2.tm.lt
  have hwl : bw < w2.heap.size := by obtain ⟨s', g', _, g2, _⟩ := hF2.wh; exact g2.lt
  have hst := snew_ok hM2 hF2 (g := 3) (by omega) (by omega) (by rw [ownC_fst n 1 (by omega)]; simp [upF]; omega) (by omega) (by omega) (by omega) ⟨1, by omega, fstT_at 1⟩
  clear hfn
  go_wp2_with fail
  refine hst.mono ?_
  rintro _ w3 ⟨tb, bl, k, rfl, hk, hTk, hT3, hI3, htb, hbl, hne, hF3, hM3, hc3⟩
  have hbn := bnew_ok2 hM3 hF3 (by omega) hT3 (g := 3) (by omega) (by omega) hp hp2
  have htl3 := hT3.row.lt
  have hbl3 := hI3.lt
  have hs3 := hc3.size
  have HG3 : Hid (Grows W w3) := Lib.hid (hc3.to_grows (hg1.trans hg2) (by simp; omega))
  have HD := Lib.hid (show (fp < w3.heap.size ∧ bt < w3.heap.size ∧ bw < w3.heap.size ∧ q < w3.heap.size ∧ p < w3.heap.size ∧ tb < w3.heap.size ∧ bl < w3.heap.size ∧ W.heap.size ≤ w3.heap.size) ∧ (p ≠ fp ∧ p ≠ bt ∧ p ≠ bw ∧ q ≠ fp ∧ q ≠ bt ∧ q ≠ bw) ∧ (tb ≠ fp ∧ tb ≠ bt ∧ tb ≠ bw ∧ tb ≠ p ∧ tb ≠ bl) ∧ (bl ≠ fp ∧ bl ≠ bt ∧ bl ≠ bw ∧ bl ≠ p) ∧ (q ≠ tb ∧ q ≠ bl) ∧ (W.heap.size ≤ fp ∧ W.heap.size ≤ bt ∧ W.heap.size ≤ bw ∧ W.heap.size ≤ q ∧ W.heap.size ≤ tb ∧ W.heap.size ≤ bl) by omega)
  have HM3 := Lib.hid hM3
  have HF3 := Lib.hid hF3
  have HT3 := Lib.hid hT3
  have HI3 := Lib.hid hI3
  have HK := Lib.hid (⟨hk, hTk⟩ : k < n ∧ fstT 1 k = 0)
  clear hst hM1 hg1 hp1 hq1 hqp hF2 hg2 hfp hbt hbw hM2 hs1 hs2 hpl hql hk hTk hT3 hI3 htb hbl hne hF3 hM3 hc3 hfl htl hwl htl3 hbl3 hs3
  go_wp2_with fail
  refine hbn.mono ?_
  rintro _ w4 ⟨ba, bv, rfl, hg4, hba, hbv, hne2, hB4⟩
  have HG4 := Lib.hid (HG3.out.trans hg4)
  have HG34 := Lib.hid hg4
  have HB4 := Lib.hid hB4
  have HBA := Lib.hid (⟨hba, hbv⟩ : w3.heap.size ≤ ba ∧ w3.heap.size ≤ bv)
  clear hbn hg4 hba hbv hne2 hB4 HG3
  go_wp2_with fail
  go_ret
  have hg5 := (Grows.refl w4).alloc (Obj.cells #[.pointer (some ⟨p, 0, none⟩), .pointer (some ⟨fp, 0, none⟩), .pointer (some ⟨tb, 0, none⟩), .pointer (some ⟨ba, 0, none⟩)] 89)
  have hgw := HG4.out.trans hg5
  have hg35 := HG34.out.trans hg5
  obtain ⟨e1, e2, e3, e4, e5, e6⟩ := HD.out
  obtain ⟨t1, t2, t3, t4⟩ := HTP.out
  obtain ⟨a1, a2⟩ := HBA.out
  have l1 := HB4.out.row.lt
  have l2 := HB4.out.wm.lt
  have l3 := HG34.out.size
  exact ⟨w4.heap.size, p, q, fp, bt, bw, tb, bl, ba, bv, k, rfl, Row.new_at _ _ _ rfl, HB4.out.chg (Chg.of_grows (S := []) hg5) (by simp) (by simp), ⟨⟨HT3.out.grows hg35, HI3.out.grows hg35, MemAt.grows HM3.out hg35, t1.grows hgw, t2.grows hgw, (fun k' t' hh => by cases hh), ⟨e5.1, e5.2, by omega, by omega⟩⟩, HF3.out.grows hg35, by omega, e2, e3, e4, (fun b hb => by omega)⟩, HK.out, by omega, by omega, by omega, by omega, hgw⟩
end Go.Proofs.YtlchlklbjocliaaDoor
