/- Balloons that no call made; New of the package balloon. -/
import Derived.Test.YtlchlklbjocliaaDoorStA
namespace Go.Proofs.YtlchlklbjocliaaDoor
open Go Go.RowKit
set_option linter.unusedSimpArgs false
set_option linter.unusedVariables false
set_option maxRecDepth 100000
def NoBa (w : World) (v : Option Addr) : Prop := v = none ∨ ∃ p, v = some ⟨p, 0, none⟩ ∧ p < w.heap.size ∧ w.cell? ⟨p, 5, none⟩ = some (.map none)
theorem NoBa.grows {w w' : World} {v : Option Addr} (h : NoBa w v) (hg : Grows w w') : NoBa w' v := by
  rcases h with h | ⟨p, h, h1, h2⟩
  · exact Or.inl h
  · exact Or.inr ⟨p, h, hg.lt h1, by rw [hg.cell h1]; exact h2⟩
theorem eqlNilB : ∀ w, (binOp .eql 98 (.map none) (.map none)).run Tryd.prog w = .ok (.bool true) w := fun w => by kernel_rfl
theorem bwrong_nob {w : World} {v : Option Addr} (h : NoBa w v) (page : Int) :
    Calls Tryd.prog 75 #[.pointer v, .int .i64 page] w fun r w' => r = .returned (.int .i64 1) ∧ w' = w := by
  rcases h with rfl | ⟨p, rfl, h1, h2⟩
  · go_enter Tryd.func75, Tryd.ntmps75
    go_wp2_with fail
    go_ret
    exact ⟨rfl, rfl⟩
  · have hb := eqlNilB
    go_enter Tryd.func75, Tryd.ntmps75
    go_wp2_with fail
    go_ret
    exact ⟨rfl, rfl⟩
theorem Give_nob {w : World} {v : Option Addr} (h : NoBa w v) (page : Int) :
    Calls Tryd.prog 36 #[.pointer v, .int .i64 page] w fun r w' => r = .returned (.int .i64 1) ∧ w' = w := by
  go_enter Tryd.func36, Tryd.ntmps36
  go_wp2_with fail
  refine (bwrong_nob h page).mono ?_
  rintro _ _ ⟨rfl, hw⟩
  rw [hw]
  clear hw
  go_wp2_with fail
  go_ret
  exact ⟨rfl, rfl⟩
theorem Take_nob {w : World} {v : Option Addr} (h : NoBa w v) (page : Int) :
    Calls Tryd.prog 34 #[.pointer v, .int .i64 page] w fun r w' => r = .returned (.tuple #[.int .i64 0, .int .i64 1]) ∧ w' = w := by
  go_enter Tryd.func34, Tryd.ntmps34
  go_wp2_with fail
  refine (bwrong_nob h page).mono ?_
  rintro _ _ ⟨rfl, hw⟩
  rw [hw]
  clear hw
  go_wp2_with fail
  go_ret2
  exact ⟨rfl, rfl⟩
theorem Return_nob {w : World} {v : Option Addr} (h : NoBa w v) (page frame : Int) :
    Calls Tryd.prog 40 #[.pointer v, .int .i64 page, .int .i64 frame] w fun r w' => r = .returned (.int .i64 1) ∧ w' = w := by
  go_enter Tryd.func40, Tryd.ntmps40
  go_wp2_with fail
  refine (bwrong_nob h page).mono ?_
  rintro _ _ ⟨rfl, hw⟩
  rw [hw]
  clear hw
  go_wp2_with fail
  go_ret
  exact ⟨rfl, rfl⟩
theorem Settle_nob {w : World} {v : Option Addr} (h : NoBa w v) (frame : Int) :
    Calls Tryd.prog 35 #[.pointer v, .int .i64 frame] w fun r w' => r = .returned (.int .i64 1) ∧ w' = w := by
  rcases h with rfl | ⟨p, rfl, h1, h2⟩
  · go_enter Tryd.func35, Tryd.ntmps35
    go_wp2_with fail
    go_ret
    exact ⟨rfl, rfl⟩
  · have hb := eqlNilB
    go_enter Tryd.func35, Tryd.ntmps35
    go_wp2_with fail
    go_ret
    exact ⟨rfl, rfl⟩
theorem Told_nob {w : World} {v : Option Addr} (h : NoBa w v) :
    Calls Tryd.prog 39 #[.pointer v] w fun r w' => r = .returned (.agg #[.int .i64 0, .int .i64 0, .int .i64 0]) ∧ Grows w w' := by
  rcases h with rfl | ⟨p, rfl, h1, h2⟩
  · go_enter Tryd.func39, Tryd.ntmps39
    go_wp2_with fail
    exact bodyPost_ret (v := .agg #[.int .i64 0, .int .i64 0, .int .i64 0]) (by simp [results, Tryd.results39, go_sem]) rfl ⟨rfl, by first | exact (Grows.refl _).alloc _⟩
  · have hb := eqlNilB
    go_enter Tryd.func39, Tryd.ntmps39
    go_wp2_with fail
    exact bodyPost_ret (v := .agg #[.int .i64 0, .int .i64 0, .int .i64 0]) (by simp [results, Tryd.results39, go_sem]) rfl ⟨rfl, by first | exact (Grows.refl _).alloc _⟩
theorem bnew_mem {w : World} {v : Option Addr} (h : NoMem w v) (f t : Option Addr) (g pages : Int) :
    Calls Tryd.prog 33 #[.pointer v, .pointer f, .pointer t, .int .i64 g, .int .i64 pages] w fun r w' => r = .returned (.tuple #[.pointer none, .int .i64 1]) ∧ Grows w w' := by
  go_enter Tryd.func33, Tryd.ntmps33
  go_wp2_with fail
  refine (frames_nob h).mono ?_
  rintro _ _ ⟨rfl, hw⟩
  rw [hw]
  clear hw
  go_wp2_with fail
  go_ret2
  exact ⟨rfl, Grows.refl _⟩
theorem bnew_fr {w : World} {p q n : Nat} {B : Nat → Nat} (h : Mem w p q n B) (hn : n / 256 ≠ 0) {v : Option Addr} (hf : NoFr w v) (t : Option Addr) (g pages : Int) :
    Calls Tryd.prog 33 #[.pointer (some ⟨p, 0, none⟩), .pointer v, .pointer t, .int .i64 g, .int .i64 pages] w fun r w' => r = .returned (.tuple #[.pointer none, .int .i64 1]) ∧ Grows w w' := by
  have hd : (((n / 256 : Nat) : Int) == 0) = false := by simp; omega
  go_enter Tryd.func33, Tryd.ntmps33
  go_wp2_with fail
  refine (frames_any h).mono ?_
  rintro _ _ ⟨rfl, hw⟩
  rw [hw]
  clear hw
  generalize ((n / 256 : Nat) : Int) = N at *
  go_wp2_with fail
  refine (Quota_nob hf _ _).mono ?_
  rintro _ w1 ⟨rfl, hg1⟩
  go_wp2_with fail
  go_ret2
  exact ⟨rfl, hg1⟩
theorem bnew_tb {w : World} {p q N fp bt bw n first low : Nat} {B T O : Nat → Nat} {quo : Nat → Int} (hM : Mem w p q N B) (hF : FrAt w fp bt bw n first T O quo low) (hN : N / 256 ≠ 0) {v : Option Addr} (ht : NoTb w v) (g pages : Int) :
    Calls Tryd.prog 33 #[.pointer (some ⟨p, 0, none⟩), .pointer (some ⟨fp, 0, none⟩), .pointer v, .int .i64 g, .int .i64 pages] w fun r w' => r = .returned (.tuple #[.pointer none, .int .i64 1]) ∧ Grows w w' := by
  have hd : (((N / 256 : Nat) : Int) == 0) = false := by simp; omega
  have hfm := frames_any hM
  have hqu := Quota_bad hF 0 (-1) (Or.inr (by omega))
  go_enter Tryd.func33, Tryd.ntmps33
  go_wp2_with fail
  refine (hfm).mono ?_
  rintro _ _ ⟨rfl, hw⟩
  rw [hw]
  clear hw
  generalize ((N / 256 : Nat) : Int) = NN at *
  go_wp2_with fail
  refine hqu.mono ?_
  rintro _ w1 ⟨rfl, hg1⟩
  go_wp2_with fail
  refine (Protect_nob (ht.grows hg1) _ _ _ _).mono ?_
  rintro _ w2 ⟨rfl, hg2⟩
  have hg := hg1.trans hg2
  clear hM hF hfm hqu hg1 hg2 hd
  go_wp2_with fail
  go_ret2
  exact ⟨rfl, hg⟩
theorem bnew_arg {w : World} {p q N fp bt bw n first low tb pm pf bl : Nat} {B T O : Nat → Nat} {quo : Nat → Int} {tg root : Int} {c : Nat → Int} (hM : Mem w p q N B) (hF : FrAt w fp bt bw n first T O quo low) (hN : N / 256 ≠ 0) (ht : TbAt w tb pm pf bl tg root true c) {g : Int} (hg17 : 16 < g) (pages : Int) :
    Calls Tryd.prog 33 #[.pointer (some ⟨p, 0, none⟩), .pointer (some ⟨fp, 0, none⟩), .pointer (some ⟨tb, 0, none⟩), .int .i64 g, .int .i64 pages] w fun r w' => r = .returned (.tuple #[.pointer none, .int .i64 2]) ∧ Grows w w' := by
  have d1 : decide (g < 1) = false := decide_eq_false (by omega)
  have d2 : decide (16 < g) = true := decide_eq_true hg17
  have hd : (((N / 256 : Nat) : Int) == 0) = false := by simp; omega
  have hfm := frames_any hM
  have hqu := Quota_bad hF 0 (-1) (Or.inr (by omega))
  go_enter Tryd.func33, Tryd.ntmps33
  go_wp2_with fail
  refine (hfm).mono ?_
  rintro _ _ ⟨rfl, hw⟩
  rw [hw]
  clear hw
  generalize ((N / 256 : Nat) : Int) = NN at *
  go_wp2_with fail
  refine hqu.mono ?_
  rintro _ w1 ⟨rfl, hg1⟩
  go_wp2_with fail
  refine (Protect_arg (ht.grows hg1) (page := -1) (Or.inl (by omega))).mono ?_
  rintro _ w2 ⟨rfl, hg2⟩
  have hg := hg1.trans hg2
  clear hM hF hfm hqu hg1 hg2 hd hg17
  go_wp2_with fail
  go_ret2
  exact ⟨rfl, hg⟩
theorem bnew_ok {w : World} {p q N fp bt bw n first low tb pm pf bl : Nat} {B T O : Nat → Nat} {quo : Nat → Int} {tg root : Int} {c : Nat → Int} (hM : Mem w p q N B) (hF : FrAt w fp bt bw n first T O quo low) (hN : N / 256 ≠ 0) (ht : TbAt w tb pm pf bl tg root true c) {g : Int} (hg1' : 1 ≤ g) (hg2' : g ≤ 16) {pages : Int} (hp : 0 ≤ pages) (hp2 : pages ≤ 1024) :
    Calls Tryd.prog 33 #[.pointer (some ⟨p, 0, none⟩), .pointer (some ⟨fp, 0, none⟩), .pointer (some ⟨tb, 0, none⟩), .int .i64 g, .int .i64 pages] w fun r w' => ∃ ba bl, r = .returned (.tuple #[.pointer (some ⟨ba, 0, none⟩), .int .i64 0]) ∧ Grows w w' ∧ w.heap.size ≤ ba ∧ w.heap.size ≤ bl ∧ ba ≠ bl ∧
      Row w' ba #[.pointer (some ⟨p, 0, none⟩), .pointer (some ⟨fp, 0, none⟩), .pointer (some ⟨tb, 0, none⟩), .int .i64 g, .int .i64 pages, .map (some bl), .int .i64 0, .int .i64 0, .int .i64 0] 100 := by
  have hmm := @run_makeMap Tryd.prog
  have d1 : decide (g < 1) = false := decide_eq_false (by omega)
  have d2 : decide (16 < g) = false := decide_eq_false (by omega)
  have d3 : decide (pages < 0) = false := decide_eq_false (by omega)
  have d4 : decide (1024 < pages) = false := decide_eq_false (by omega)
  have hd : (((N / 256 : Nat) : Int) == 0) = false := by simp; omega
  have hfm := frames_any hM
  have hqu := Quota_bad hF 0 (-1) (Or.inr (by omega))
  go_enter Tryd.func33, Tryd.ntmps33
  go_wp2_with fail
  refine (hfm).mono ?_
  rintro _ _ ⟨rfl, hw⟩
  rw [hw]
  clear hw
  generalize ((N / 256 : Nat) : Int) = NN at *
  go_wp2_with fail
  refine hqu.mono ?_
  rintro _ w1 ⟨rfl, hg1⟩
  go_wp2_with fail
  refine (Protect_arg (ht.grows hg1) (page := -1) (Or.inl (by omega))).mono ?_
  rintro _ w2 ⟨rfl, hg2⟩
  have hg := hg1.trans hg2
  have hs := hg.size
  clear hM hF hfm hqu hg1 hg2 hd
  go_wp2_with fail
  go_ret2
  exact ⟨w2.heap.size + 1, w2.heap.size, rfl, (hg.alloc _).alloc _, by omega, hs, by omega, Row.new_at _ _ _ (by simp)⟩
end Go.Proofs.YtlchlklbjocliaaDoor
