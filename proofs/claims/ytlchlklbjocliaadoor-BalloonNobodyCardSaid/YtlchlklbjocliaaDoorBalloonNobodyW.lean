/- The walk of BalloonNobody. -/
import Derived.Test.YtlchlklbjocliaaDoorBaN
import Derived.Test.YtlchlklbjocliaaDoorEntP
namespace Go.Proofs.YtlchlklbjocliaaDoor
open Go Go.RowKit
set_option linter.unusedSimpArgs false
set_option linter.unusedVariables false
set_option maxRecDepth 100000
/-- A memory, frames, tables and a balloon. -/
structure BegAt (w : World) (wb p q n fp bt bw tb bl ba : Nat) (T O : Nat → Nat) (root : Int) (k : Nat) (pages : Int) : Prop where
  row : Row w wb #[.pointer (some ⟨p, 0, none⟩), .pointer (some ⟨fp, 0, none⟩), .pointer (some ⟨tb, 0, none⟩), .pointer (some ⟨ba, 0, none⟩)] 89
  mem : ∃ B, Mem w p q (n * 256) B
  fr : FrAt w fp bt bw n 1 T O (fun _ => (n : Int)) k
  tb : TbAt w tb p fp bl 3 root true (fun _ => 0)
set_option maxHeartbeats 4000000 in
theorem begin_ok (W : World) {n : Nat} (h1 : 2 ≤ n) (h2 : n ≤ 65536) {pages : Int} (hp : 0 ≤ pages) (hp2 : pages ≤ 1024) :
    Calls Tryd.prog 32 #[.int .i64 n, .int .i64 pages] W fun r w' => ∃ wb p q fp bt bw tb bl ba T O root k, r = .returned (.pointer (some ⟨wb, 0, none⟩)) ∧ BegAt w' wb p q n fp bt bw tb bl ba T O root k pages ∧ Grows W w' := by
  have hn : n * 256 / 256 = n := by omega
  go_enter Tryd.func32, Tryd.ntmps32
  go_wp2_with fail
  refine (new_ok n (by omega) (by omega) _).mono ?_
  rintro _ w1 ⟨p, q, rfl, hM1, hg1, hp1, hq1, hqp⟩
  have hfn := fnew_ok w1 (n := n) (first := 1) (by omega) (by omega) (by omega)
  go_wp2_with fail
  refine hfn.mono ?_
  rintro _ w2 ⟨fp, bt, bw, rfl, hF2, hg2, hfp, hbt, hbw⟩
  have hM2 := MemAt.grows hM1 hg2
  have hs1 := hg1.size
  have hs2 := hg2.size
  have hpl := hM1.plt
  have hql := hM1.qlt
  have hst := snew_ok hM2 hF2 (g := 3) (by omega) (by omega) (by rw [ownC_fst n 1 (by omega)]; simp [upF]; omega) (by omega) (by omega) (by omega) ⟨1, by omega, fstT_at 1⟩
  clear hfn
  go_wp2_with fail
  refine hst.mono ?_
  rintro _ w3 ⟨tb, bl, k, rfl, hk, hTk, hT3, hI3, htb, hbl, hne, hF3, hM3, hc3⟩
  have hbn := bnew_ok hM3 hF3 (by omega) hT3 (g := 3) (by omega) (by omega) hp hp2
  have HG3 : Hid (Grows W w3) := Lib.hid (hc3.to_grows (hg1.trans hg2) (by simp; omega))
  have HM3 := Lib.hid hM3
  have HF3 := Lib.hid hF3
  have HT3 := Lib.hid hT3
  clear hst hM1 hg1 hp1 hq1 hqp hF2 hg2 hfp hbt hbw hM2 hs1 hs2 hpl hql hk hTk hT3 hI3 htb hbl hne hF3 hM3 hc3
  go_wp2_with fail
  refine hbn.mono ?_
  rintro _ w4 ⟨ba, bl2, rfl, hg4, hba, hbl2, hne2, hr4⟩
  have HG4 := Lib.hid (HG3.out.trans hg4)
  have HM4 := Lib.hid (MemAt.grows HM3.out hg4)
  have HF4 := Lib.hid (HF3.out.grows hg4)
  have HT4 := Lib.hid (HT3.out.grows hg4)
  clear hbn hg4 hba hbl2 hne2 hr4 HG3 HM3 HF3 HT3
  go_wp2_with fail
  go_ret
  have hg5 := (Grows.refl w4).alloc (Obj.cells #[.pointer (some ⟨p, 0, none⟩), .pointer (some ⟨fp, 0, none⟩), .pointer (some ⟨tb, 0, none⟩), .pointer (some ⟨ba, 0, none⟩)] 89)
  exact ⟨w4.heap.size, p, q, fp, bt, bw, tb, bl, ba, _, _, _, k, rfl, ⟨Row.new_at _ _ _ rfl, ⟨_, MemAt.grows HM4.out hg5⟩, HF4.out.grows hg5, HT4.out.grows hg5⟩, HG4.out.trans hg5⟩
theorem BegAt.grows {w w' : World} {wb p q n fp bt bw tb bl ba : Nat} {T O : Nat → Nat} {root : Int} {k : Nat} {pages : Int} (h : BegAt w wb p q n fp bt bw tb bl ba T O root k pages) (hg : Grows w w') : BegAt w' wb p q n fp bt bw tb bl ba T O root k pages :=
  ⟨h.row.grows hg, by obtain ⟨B, hB⟩ := h.mem; exact ⟨B, MemAt.grows hB hg⟩, h.fr.grows hg, h.tb.grows hg⟩
theorem quiet_of {w : World} {f : FuncId} {args : Array Value} {v : Value} (h : ∀ W, Grows w W → Calls Tryd.prog f args W fun e w' => e = .returned v ∧ Grows W w') (g : Pad) : Calls Tryd.prog f args (w.grow g) fun e w' => e = .returned v ∧ ∃ h, w' = w.grow h :=
  (h _ (Grows.of _ g)).mono fun _ _ ⟨he, hg⟩ => ⟨he, (Grows.of _ g).trans hg⟩
def zeroBa : Array Value := #[.pointer none, .pointer none, .pointer none, .int .i64 0, .int .i64 0, .map none, .int .i64 0, .int .i64 0, .int .i64 0]
theorem zeroBa_def : (#[.pointer none, .pointer none, .pointer none, .int .i64 0, .int .i64 0, .map none, .int .i64 0, .int .i64 0, .int .i64 0] : Array Value) = zeroBa := rfl
set_option maxHeartbeats 4000000 in
theorem balloonNobody_walk (page : Int) (_ : (Lit.int .i64 page).wf = true) (W : World) (_ : Widths W) (_ : Places W) :
    Calls Tryd.prog 10 #[.int .i64 page] W fun r w' => r = .returned (.bool true) ∧ Grows W w' := by
  go_enter Tryd.func10, Tryd.ntmps10
  go_wp2_with fail
  rw [zeroBa_def]
  obtain ⟨W3, hW3⟩ : ∃ W3, W3 = ((W.alloc (Obj.cells zeroBa 100)).alloc (Obj.cells #[.pointer none, .pointer (some ⟨W.heap.size, 0, none⟩)] 87)) := ⟨_, rfl⟩
  obtain ⟨bs, hbs⟩ : ∃ bs, bs = W.heap.size + 1 := ⟨_, rfl⟩
  obtain ⟨bf, hbf⟩ : ∃ bf, bf = W.heap.size := ⟨_, rfl⟩
  have g3 : Grows W W3 := by rw [hW3]; exact ((Grows.refl _).alloc _).alloc _
  have r2' : Row W3 bf zeroBa 100 := by
    rw [hW3, hbf]; exact (Row.new W _ _).grows ((Grows.refl _).alloc _)
  have r3' : Row W3 bs #[.pointer none, .pointer (some ⟨bf, 0, none⟩)] 87 := by
    rw [hW3, hbf]; exact Row.new_at _ _ _ (by simp [hbs])
  rw [← hW3, ← hbs, ← hbf]
  have hn0 : NoBa W3 none := Or.inl rfl
  have hn1 : NoBa W3 (some ⟨bf, 0, none⟩) := Or.inr ⟨bf, rfl, r2'.lt, r2'.cell 5⟩
  have hcl : ∀ w', Grows W3 w' → w'.cell? ⟨bs, 0, none⟩ = some (.pointer none) ∧ w'.cell? ⟨bs, 1, none⟩ = some (.pointer (some ⟨bf, 0, none⟩)) :=
    fun w' hg => ⟨(r3'.grows hg).cell 0, (r3'.grows hg).cell 1⟩
  have HG3 := Lib.hid g3
  have HCL := Lib.hid hcl
  clear hW3 hbf hbs g3 r2' r3' hcl
  go_loopw [20] (fun j wr => ∃ k : Nat, k ≤ 2 ∧ j = .int .i64 k ∧ Grows W3 wr) (fun j _ => (2 - intOf j).toNat)
  case atStart => exact ⟨0, by omega, rfl, Grows.refl _⟩
  case round =>
    obtain ⟨k, hk, rfl, hgr⟩ := hrel
    have : k = 0 ∨ k = 1 ∨ k = 2 := by omega
    rcases this with rfl | rfl | rfl
    · have hno := hn0.grows hgr
      clear hn0 hn1
      obtain ⟨a5, a6⟩ := HCL.out _ hgr
      go_wp2_with fail
      refine (Take_nob hno page).mono ?_
      rintro _ _ ⟨rfl, hw⟩
      rw [hw]
      clear hw
      go_wp2_with fail
      refine (Give_nob hno page).mono ?_
      rintro _ _ ⟨rfl, hw⟩
      rw [hw]
      clear hw
      go_wp2_with fail
      refine (Settle_nob hno page).mono ?_
      rintro _ _ ⟨rfl, hw⟩
      rw [hw]
      clear hw
      go_wp2_with fail
      refine (Return_nob hno page 0).mono ?_
      rintro _ _ ⟨rfl, hw⟩
      rw [hw]
      clear hw
      go_wp2_with fail
      refine (Told_nob hno).mono ?_
      rintro _ v1 ⟨rfl, hv1⟩
      have hgt := hgr.trans hv1
      clear hgr hv1 hno a5 a6
      go_wp2_with fail
      exact ⟨⟨1, by omega, by simp, hgt⟩, by simp [intOf]⟩
    · have hno := hn1.grows hgr
      clear hn0 hn1
      obtain ⟨a5, a6⟩ := HCL.out _ hgr
      go_wp2_with fail
      refine (Take_nob hno page).mono ?_
      rintro _ _ ⟨rfl, hw⟩
      rw [hw]
      clear hw
      go_wp2_with fail
      refine (Give_nob hno page).mono ?_
      rintro _ _ ⟨rfl, hw⟩
      rw [hw]
      clear hw
      go_wp2_with fail
      refine (Settle_nob hno page).mono ?_
      rintro _ _ ⟨rfl, hw⟩
      rw [hw]
      clear hw
      go_wp2_with fail
      refine (Return_nob hno page 0).mono ?_
      rintro _ _ ⟨rfl, hw⟩
      rw [hw]
      clear hw
      go_wp2_with fail
      refine (Told_nob hno).mono ?_
      rintro _ v1 ⟨rfl, hv1⟩
      have hgt := hgr.trans hv1
      clear hgr hv1 hno a5 a6
      go_wp2_with fail
      exact ⟨⟨2, by omega, by simp, hgt⟩, by simp [intOf]⟩
    · have HG := Lib.hid (HG3.out.trans hgr)
      clear hn0 hn1 hgr
      go_wp2_with fail
      refine (begin_ok wr (n := 4) (by omega) (by omega) (by omega) (by omega)).mono ?_
      rintro _ w1 ⟨wb, p, q, fp, bt, bw, tb, bl, ba, T, O, root, kk, rfl, hB1, hg1⟩
      have HB1 := Lib.hid hB1
      have HG1 := Lib.hid (HG.out.trans hg1)
      clear hB1 hg1
      have q1 := fun (v : Value) (f : FuncId) (args : Array Value) (h : ∀ W, Grows w1 W → Calls Tryd.prog f args W fun e w' => e = .returned v ∧ Grows W w') => quiet_of h
      obtain ⟨c0, c1, c2, c3⟩ : w1.cell? ⟨wb, 0, none⟩ = some (.pointer (some ⟨p, 0, none⟩)) ∧ w1.cell? ⟨wb, 1, none⟩ = some (.pointer (some ⟨fp, 0, none⟩)) ∧ w1.cell? ⟨wb, 2, none⟩ = some (.pointer (some ⟨tb, 0, none⟩)) ∧ wb < w1.heap.size := ⟨HB1.out.row.cell 0, HB1.out.row.cell 1, HB1.out.row.cell 2, HB1.out.row.lt⟩
      clear q1
      go_wp2_with fail
      refine wp_region_grow (by kernel_rfl) (by kernel_rfl) ?_
      repeat (go_big_quiet_step ((go_at_call 33 <;> exact quiet_of (fun W hg => bnew_mem (Or.inl rfl) _ _ _ _) _)))
      refine wpQuiet_nil ?_
      intro w2 hWv
      obtain ⟨gg, hWq⟩ := hWv
      have HB2 := Lib.hid (show BegAt w2 wb p q 4 fp bt bw tb bl ba T O root kk 1 by rw [hWq]; exact HB1.out.grows (Grows.of _ gg))
      have HG2 := Lib.hid (show Grows W w2 by rw [hWq]; exact HG1.out.trans (Grows.of _ gg))
      clear hWq c0 c1 c2 c3 HB1 HG1
      have q1 := fun (v : Value) (f : FuncId) (args : Array Value) (h : ∀ W, Grows w2 W → Calls Tryd.prog f args W fun e w' => e = .returned v ∧ Grows W w') => quiet_of h
      obtain ⟨c0, c1, c2, c3⟩ : w2.cell? ⟨wb, 0, none⟩ = some (.pointer (some ⟨p, 0, none⟩)) ∧ w2.cell? ⟨wb, 1, none⟩ = some (.pointer (some ⟨fp, 0, none⟩)) ∧ w2.cell? ⟨wb, 2, none⟩ = some (.pointer (some ⟨tb, 0, none⟩)) ∧ wb < w2.heap.size := ⟨HB2.out.row.cell 0, HB2.out.row.cell 1, HB2.out.row.cell 2, HB2.out.row.lt⟩
      clear q1
      go_wp2_with fail
      refine wp_region_grow (by kernel_rfl) (by kernel_rfl) ?_
      repeat (go_big_quiet_step ((go_at_call 33 <;> exact quiet_of (fun W hg => by obtain ⟨B, hm⟩ := (HB2.out.grows hg).mem; exact bnew_fr hm (by omega) (Or.inl rfl) _ _ _) _)))
      refine wpQuiet_nil ?_
      intro w3 hWv
      obtain ⟨gg, hWq⟩ := hWv
      have HB3 := Lib.hid (show BegAt w3 wb p q 4 fp bt bw tb bl ba T O root kk 1 by rw [hWq]; exact HB2.out.grows (Grows.of _ gg))
      have HG3' := Lib.hid (show Grows W w3 by rw [hWq]; exact HG2.out.trans (Grows.of _ gg))
      clear hWq c0 c1 c2 c3 HB2 HG2
      have q1 := fun (v : Value) (f : FuncId) (args : Array Value) (h : ∀ W, Grows w3 W → Calls Tryd.prog f args W fun e w' => e = .returned v ∧ Grows W w') => quiet_of h
      obtain ⟨c0, c1, c2, c3⟩ : w3.cell? ⟨wb, 0, none⟩ = some (.pointer (some ⟨p, 0, none⟩)) ∧ w3.cell? ⟨wb, 1, none⟩ = some (.pointer (some ⟨fp, 0, none⟩)) ∧ w3.cell? ⟨wb, 2, none⟩ = some (.pointer (some ⟨tb, 0, none⟩)) ∧ wb < w3.heap.size := ⟨HB3.out.row.cell 0, HB3.out.row.cell 1, HB3.out.row.cell 2, HB3.out.row.lt⟩
      clear q1
      go_wp2_with fail
      refine wp_region_grow (by kernel_rfl) (by kernel_rfl) ?_
      repeat (go_big_quiet_step ((go_at_call 33 <;> exact quiet_of (fun W hg => by obtain ⟨B, hm⟩ := (HB3.out.grows hg).mem; exact bnew_tb hm (HB3.out.grows hg).fr (by omega) (Or.inl rfl) _ _) _)))
      refine wpQuiet_nil ?_
      intro w4 hWv
      obtain ⟨gg, hWq⟩ := hWv
      have HB4 := Lib.hid (show BegAt w4 wb p q 4 fp bt bw tb bl ba T O root kk 1 by rw [hWq]; exact HB3.out.grows (Grows.of _ gg))
      have HG4 := Lib.hid (show Grows W w4 by rw [hWq]; exact HG3'.out.trans (Grows.of _ gg))
      clear hWq c0 c1 c2 c3 HB3 HG3'
      have q1 := fun (v : Value) (f : FuncId) (args : Array Value) (h : ∀ W, Grows w4 W → Calls Tryd.prog f args W fun e w' => e = .returned v ∧ Grows W w') => quiet_of h
      obtain ⟨c0, c1, c2, c3⟩ : w4.cell? ⟨wb, 0, none⟩ = some (.pointer (some ⟨p, 0, none⟩)) ∧ w4.cell? ⟨wb, 1, none⟩ = some (.pointer (some ⟨fp, 0, none⟩)) ∧ w4.cell? ⟨wb, 2, none⟩ = some (.pointer (some ⟨tb, 0, none⟩)) ∧ wb < w4.heap.size := ⟨HB4.out.row.cell 0, HB4.out.row.cell 1, HB4.out.row.cell 2, HB4.out.row.lt⟩
      clear q1
      go_wp2_with fail
      refine wp_region_grow (by kernel_rfl) (by kernel_rfl) ?_
      repeat (go_big_quiet_step ((go_at_call 33 <;> exact quiet_of (fun W hg => by obtain ⟨B, hm⟩ := (HB4.out.grows hg).mem; exact bnew_arg hm (HB4.out.grows hg).fr (by omega) (HB4.out.grows hg).tb (g := 17) (by omega) _) _)))
      refine wpQuiet_nil ?_
      intro w5 hWv
      obtain ⟨gg, hWq⟩ := hWv
      have HB5 := Lib.hid (show BegAt w5 wb p q 4 fp bt bw tb bl ba T O root kk 1 by rw [hWq]; exact HB4.out.grows (Grows.of _ gg))
      have HG5 := Lib.hid (show Grows W w5 by rw [hWq]; exact HG4.out.trans (Grows.of _ gg))
      clear hWq c0 c1 c2 c3 HB4 HG4
      go_wp2_with fail
      go_ret
      exact ⟨rfl, HG5.out⟩
end Go.Proofs.YtlchlklbjocliaaDoor
