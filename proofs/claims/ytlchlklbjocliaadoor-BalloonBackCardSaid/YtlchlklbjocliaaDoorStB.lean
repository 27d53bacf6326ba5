/- The package stage: what reads and writes one entry. -/
import Derived.Test.YtlchlklbjocliaaDoorStA
import Derived.Test.YtlchlklbjocliaaDoorWk
import Derived.Test.YtlchlklbjocliaaDoorFrA
import Derived.StillTailTactics
import Derived.Deep.RegionHeld3
namespace Go.Proofs.YtlchlklbjocliaaDoor
open Go Go.RowKit
set_option linter.unusedSimpArgs false
set_option linter.unusedVariables false
set_option maxRecDepth 100000
abbrev LMap := IMap Tryd.prog 3 3
theorem isPage_ok {page : Nat} (hp : page < 1024) (w : World) : Calls Tryd.prog 48 #[.int .i64 page] w fun r w' => r = .returned (.bool true) ∧ w' = w := by
  have d1 : decide (0 ≤ (page : Int)) = true := decide_eq_true (by omega)
  have d2 : decide ((page : Int) < 1024) = true := decide_eq_true (by omega)
  clear hp
  go_enter Tryd.func48, Tryd.ntmps48
  go_wp2_with fail
  go_ret
  exact ⟨rfl, rfl⟩
def rightR (r w x : Bool) : Bool := r || (x && !w)
theorem srights_any (r w x : Bool) (W : World) : Calls Tryd.prog 49 #[.agg #[.bool r, .bool w, .bool x]] W fun e w' => e = .returned (.bool (rightR r w x)) ∧ Grows W w' := by
  cases r <;> cases x <;> cases w
  all_goals
    go_enter Tryd.func49, Tryd.ntmps49
    go_wp2_with fail
    go_ret
    exact ⟨rfl, by first | exact Grows.refl _ | exact (Grows.refl _).alloc _⟩
/-- A page's entry. -/
def pgL (r w x : Bool) (n : Int) : Array Value := #[.bool true, .bool r, .bool w, .bool x, .bool true, .bool false, .bool false, .int .i64 n]
theorem sleaf_any (r w x : Bool) (n : Int) (W : World) : Calls Tryd.prog 53 #[.int .i64 n, .agg #[.bool r, .bool w, .bool x]] W fun e w' => e = .returned (.agg (pgL r w x n)) ∧ Grows W w' := by
  go_enter Tryd.func53, Tryd.ntmps53
  go_wp2_with fail
  exact bodyPost_ret (v := .agg (pgL r w x n)) (by simp [results, Tryd.results53, go_sem, pgL]) rfl ⟨rfl, ((Grows.refl _).alloc _).alloc _⟩
theorem packZ_nat (a b c d e f g : Bool) (n : Int) : 0 ≤ packZ a b c d e f g n ∧ packZ a b c d e f g n < 18446744073709551616 := by
  unfold packZ
  split
  · rename_i h
    have := rightB_frame h
    have h0 : 0 ≤ flagsN a b c d e f g ∧ flagsN a b c d e f g < 1024 := by
      cases a <;> cases b <;> cases c <;> cases d <;> cases e <;> cases f <;> cases g <;> decide
    omega
  · omega
def packN (a b c d e f g : Bool) (n : Int) : Nat := (packZ a b c d e f g n).toNat
theorem packN_eq (a b c d e f g : Bool) (n : Int) : (packN a b c d e f g n : Int) = packZ a b c d e f g n := by
  have := packZ_nat a b c d e f g n
  unfold packN
  omega
theorem packN_lt (a b c d e f g : Bool) (n : Int) : packN a b c d e f g n < 18446744073709551616 := by
  have := packZ_nat a b c d e f g n
  unfold packN
  omega
/-- put: the entry stands there, nothing else changes. -/
theorem put_any {w : World} {tb pm pf bl q N : Nat} {g root : Int} {op : Bool} {c : Nat → Int} {B : Nat → Nat} (h : TbAt w tb pm pf bl g root op c) (hM : Mem w pm q N B) (hT : Widths w) (hP : Places w) {t pl : Nat} (ht : t < 65536) (hpl : pl < 32) (hin : t * 256 + 8 * pl + 8 ≤ N) (hq : q ≠ tb) (a b' c' d e f g' : Bool) (n : Int) :
    Calls Tryd.prog 45 #[.pointer (some ⟨tb, 0, none⟩), .int .i64 t, .int .i64 pl, .agg #[.bool a, .bool b', .bool c', .bool d, .bool e, .bool f, .bool g', .int .i64 n]] w fun r w' => (∃ v, r = .returned v) ∧ Mem w' pm q N (putB B (t * 256 + 8 * pl) (leB (packN a b' c' d e f g' n) 8)) ∧ Chg [q] w w' := by
  have hpk := fun w (hP : Places w) => pack_any a b' c' d e f g' n w hP
  rw [← packN_eq] at hpk
  have HPK := Lib.hid hpk
  have HST := Lib.hid (fun w (h1 : Widths w) (h2 : Mem w pm q N B) => Store_ok h1 h2 (t * 256 + 8 * pl) 8 (packN a b' c' d e f g' n) (by decide) (by omega) hin)
  have e1 : IntKind.u64.wrap (t : Int) = t := wrap_u64_small (by omega) (by omega)
  have e2 : IntKind.u64.wrap (pl : Int) = pl := wrap_u64_small (by omega) (by omega)
  have e3 : IntKind.u64.wrap ((t : Int) * 256) = (t : Int) * 256 := wrap_u64_small (by omega) (by omega)
  have e4 : IntKind.u64.wrap (8 * (pl : Int)) = 8 * (pl : Int) := wrap_u64_small (by omega) (by omega)
  have e5 : IntKind.u64.wrap ((t : Int) * 256 + 8 * (pl : Int)) = ((t * 256 + 8 * pl : Nat) : Int) := by rw [wrap_u64_small (by omega) (by omega)]; omega
  generalize packN a b' c' d e f g' n = V at *
  generalize packE a b' c' d e f g' n = E at *
  have HH := Lib.hid h
  have HM := Lib.hid hM
  have HT := Lib.hid hT
  have HP := Lib.hid hP
  clear h hM hT hP ht hpl hin hpk
  go_enter Tryd.func45, Tryd.ntmps45
  go_wp2_with fail
  refine (HPK.out _ (HP.out.grows ((Grows.refl _).alloc _))).mono ?_
  rintro _ w1 ⟨rfl, hg1⟩
  have hg := ((Grows.refl w).alloc (Obj.cells #[.bool a, .bool b', .bool c', .bool d, .bool e, .bool f, .bool g', .int .i64 n] 111)).trans hg1
  obtain ⟨c0, _, _, _, _, _, lt⟩ := (HH.out.grows hg).cells
  have HG := Lib.hid hg
  clear hg hg1
  go_wp2_with fail
  refine (HST.out w1 (HT.out.grows HG.out) (HM.out.grows HG.out)).mono ?_
  rintro _ w2 ⟨rfl, hM2, hC2⟩
  have HM2 := Lib.hid hM2
  have HC2 := Lib.hid ((Chg.of_grows (S := [q]) HG.out).trans hC2)
  clear hM2 hC2 c0 lt
  go_wp2_with fail
  exact bodyPost_end (v := .tuple #[]) (by simp [results, Tryd.results45, go_sem]) rfl ⟨⟨_, rfl⟩, HM2.out, HC2.out⟩
theorem pageQR {page : Nat} (hp : page < 1024) : (page : Int).tdiv 32 = ((page / 32 : Nat) : Int) ∧ (page : Int).tmod 32 = ((page % 32 : Nat) : Int) ∧ wrap64 ((page / 32 : Nat) : Int) = ((page / 32 : Nat) : Int) ∧ IntKind.i64.wrap ((page / 32 : Nat) : Int) = ((page / 32 : Nat) : Int) := by
  rw [Int.tdiv_eq_ediv_of_nonneg (by omega), Int.tmod_eq_emod_of_nonneg (by omega)]
  refine ⟨by omega, by omega, wrap64_small (by omega) (by omega), ?_⟩
  rw [IntKind.wrap_i64]
  omega
theorem zero_int' (w : World) : (zeroValue 3).run Tryd.prog w = .ok (.int .i64 0) w := by
  have h : ∀ w, (zeroValue 3).run Tryd.prog w = .ok (.int .i64 0) w := fun w => by kernel_rfl
  exact h w
theorem get_none {w : World} {tb pm pf bl s : Nat} {g root : Int} {op : Bool} {c : Nat → Int} {L : Int → Option Int} (h : TbAt w tb pm pf bl g root op c) (hL : LMap w bl s L) {page : Nat} (hp : page < 1024) (hl : L ((page / 32 : Nat) : Int) = none) :
    Calls Tryd.prog 51 #[.pointer (some ⟨tb, 0, none⟩), .int .i64 page] w fun r w' => r = .returned (.tuple #[.agg zeroE, .bool false]) ∧ Grows w w' := by
  have hlk := fun w' (hg : Grows w w') => ((hL.grows hg).look_ok Tryd.underlying3 Tryd.underlying3 Tryd.underlying29 (zero_int' w') (K := ((page / 32 : Nat) : Int)) (wf_of (by omega) (by omega))).1
  rw [hl] at hlk
  simp only [Option.getD_none, Option.isSome_none] at hlk
  obtain ⟨q1, q2, q3, q4⟩ := pageQR hp
  generalize page / 32 = kq at *
  generalize page % 32 = pr at *
  have HK := Lib.hid hlk
  have hlk2 := hlk _ ((Grows.refl w).alloc (Obj.cells zeroE 111))
  unfold zeroE at hlk2
  obtain ⟨_, _, _, _, _, c5, lt⟩ := (h.grows ((Grows.refl w).alloc (Obj.cells zeroE 111))).cells
  unfold zeroE at c5 lt
  clear h hL hp hl hlk
  go_enter Tryd.func51, Tryd.ntmps51
  go_wp2_with fail
  exact bodyPost_ret (v := .tuple #[.agg zeroE, .bool false]) (by simp [results, Tryd.results51, go_sem, zeroE]) rfl ⟨rfl, by first | exact (Grows.refl _).alloc _ | exact (((((((((Grows.refl w).alloc _).setCell (Nat.le_refl _) _).setCell (Nat.le_refl _) _).setCell (Nat.le_refl _) _).setCell (Nat.le_refl _) _).setCell (Nat.le_refl _) _).setCell (Nat.le_refl _) _).setCell (Nat.le_refl _) _).setCell (Nat.le_refl _) _⟩
theorem gok_ne (v : Nat) : (!(eb v 0 == false && (eb v 1 == false && (eb v 2 == false && (eb v 3 == false && (eb v 4 == false && (eb v 5 == false && (eb v 6 == false && (ef v : Int) == 0)))))))) = gok v := by
  cases h : gok v
  · have e0 : ∀ k, eb v k = false := fun k => by unfold eb; rw [h]; rfl
    have e1 : ef v = 0 := by unfold ef; rw [h]; rfl
    rw [e0, e0, e0, e0, e0, e0, e0, e1]
    rfl
  · have e0 : eb v 0 = true := by unfold eb; rw [h, bitN0 h]; rfl
    rw [e0]
    rfl
/-- Load of eight bytes anywhere: the number that stands there, or 0. -/
theorem load_gv {w : World} {p q N : Nat} {B : Nat → Nat} (hW : Widths w) (h : Mem w p q N B) {A : Nat} (hA : A < 18446744073709551616) :
    Calls Tryd.prog 81 #[.pointer (some ⟨p, 0, none⟩), .int .u64 A, .int .i64 8] w fun r w' => (∃ e : Int, r = .returned (.tuple #[.int .u64 (gv N B A : Nat), .int .i64 e])) ∧ Grows w w' := by
  by_cases he : numE N A 8 = 0
  · obtain ⟨K, hK, hk, ha, hn, h8, h0⟩ := numE_ok he
    obtain rfl : K = 8 := by omega
    have hgv : gv N B A = loadN (segB B A 8) := by unfold gv; rw [if_pos he]
    rw [hgv]
    exact (Load_ok hW h A 8 hk ha hn).mono fun r w' hr => ⟨⟨0, hr.1⟩, hr.2⟩
  · have hgv : gv N B A = 0 := by unfold gv; rw [if_neg he]
    rw [hgv]
    exact (Load_bad h A 8 hA he).mono fun r w' hr => ⟨⟨_, hr.1⟩, hr.2⟩
theorem gv_lt {w : World} {p q N : Nat} {B : Nat → Nat} (h : Mem w p q N B) (A : Nat) : gv N B A < 18446744073709551616 := by
  by_cases he : numE N A 8 = 0
  · obtain ⟨K, hK, hk, ha, hn, h8, h0⟩ := numE_ok he
    obtain rfl : K = 8 := by omega
    have hgv : gv N B A = loadN (segB B A 8) := by unfold gv; rw [if_pos he]
    rw [hgv]
    have h1 : ∀ x ∈ segB B A 8, x < 256 := segB_lt (n := N) (fun i hi => h.bts.byte hi) (by omega)
    have h2 := leN_lt h1
    rw [segB_length] at h2
    unfold loadN
    rw [if_neg (by rw [segB_length]; decide)]
    exact h2
  · unfold gv; rw [if_neg he]; decide
set_option maxHeartbeats 1000000 in
theorem get_some {w : World} {tb pm pf bl q N s : Nat} {g root : Int} {op : Bool} {c : Nat → Int} {L : Int → Option Int} {B : Nat → Nat} (h : TbAt w tb pm pf bl g root op c) (hL : LMap w bl s L) (hM : Mem w pm q N B) (hT : Widths w) (hP : Places w) {page t : Nat} (hp : page < 1024) (hl : L ((page / 32 : Nat) : Int) = some (t : Int)) (ht : t < 65536) :
    Calls Tryd.prog 51 #[.pointer (some ⟨tb, 0, none⟩), .int .i64 page] w fun r w' => r = .returned (.tuple #[.agg (entA (gv N B (t * 256 + 8 * (page % 32)))), .bool (gok (gv N B (t * 256 + 8 * (page % 32))))]) ∧ Grows w w' := by
  have hlk := fun w' (hg : Grows w w') => ((hL.grows hg).look_ok Tryd.underlying3 Tryd.underlying3 Tryd.underlying29 (zero_int' w') (K := ((page / 32 : Nat) : Int)) (wf_of (by omega) (by omega))).1
  rw [hl] at hlk
  simp only [Option.getD_some, Option.isSome_some] at hlk
  obtain ⟨q1, q2, q3, q4⟩ := pageQR hp
  have hpr : page % 32 < 32 := by omega
  generalize page / 32 = kq at *
  generalize page % 32 = pr at *
  have e1 : IntKind.u64.wrap (t : Int) = t := wrap_u64_small (by omega) (by omega)
  have e2 : IntKind.u64.wrap (pr : Int) = pr := wrap_u64_small (by omega) (by omega)
  have e3 : IntKind.u64.wrap ((t : Int) * 256) = (t : Int) * 256 := wrap_u64_small (by omega) (by omega)
  have e4 : IntKind.u64.wrap (8 * (pr : Int)) = 8 * (pr : Int) := wrap_u64_small (by omega) (by omega)
  have e5 : IntKind.u64.wrap ((t : Int) * 256 + 8 * (pr : Int)) = ((t * 256 + 8 * pr : Nat) : Int) := by rw [wrap_u64_small (by omega) (by omega)]; omega
  have hld := fun W (hg : Grows w W) => load_gv (hT.grows hg) (hM.grows hg) (A := t * 256 + 8 * pr) (by omega)
  have hvl := gv_lt hM (t * 256 + 8 * pr)
  generalize t * 256 + 8 * pr = ad at *
  generalize gv N B ad = v at *
  have hun := fun W (hg : Grows w W) => by have := unpack_any v hvl W (hP.grows hg); rw [unpA_eq] at this; exact this
  have HLD := Lib.hid hld
  have HUN := Lib.hid hun
  have hlk2 := hlk _ ((Grows.refl w).alloc (Obj.cells zeroE 111))
  unfold zeroE at hlk2
  obtain ⟨c0, _, _, _, _, c5, lt⟩ := (h.grows ((Grows.refl w).alloc (Obj.cells zeroE 111))).cells
  unfold zeroE at c0 c5 lt
  clear h hL hM hT hP hp hl ht hlk hpr hld hun hvl
  go_enter Tryd.func51, Tryd.ntmps51
  go_wp2_with fail
  refine (HLD.out _ ((Grows.refl w).alloc _)).mono ?_
  rintro _ w1 ⟨⟨ee, rfl⟩, hg1⟩
  have hg1' := ((Grows.refl w).alloc (Obj.cells zeroE 111)).trans hg1
  have hr4 : Row w1 w.heap.size zeroE 111 := (Row.new w zeroE 111).grows hg1
  obtain ⟨b4, hb4⟩ : ∃ b, b = w.heap.size := ⟨_, rfl⟩
  rw [← hb4] at hr4 ⊢
  have HG1 := Lib.hid hg1'
  have HB4 := Lib.hid hb4
  have HR4 := Lib.hid hr4
  clear hg1 hg1' hr4 hb4 HLD c0 c5 lt hlk2 e1 e2 e3 e4 e5
  go_wp2_with fail
  refine (HUN.out _ HG1.out).mono ?_
  rintro _ w2 ⟨rfl, hg2⟩
  have HGK' := Lib.hid (gok_ne v)
  have HEN := Lib.hid (show entA v = #[.bool (eb v 0), .bool (eb v 1), .bool (eb v 2), .bool (eb v 3), .bool (eb v 4), .bool (eb v 5), .bool (eb v 6), .int .i64 (ef v)] from rfl)
  rw [HEN.out]
  clear HUN
  generalize eb v 0 = a0 at *
  generalize eb v 1 = a1 at *
  generalize eb v 2 = a2 at *
  generalize eb v 3 = a3 at *
  generalize eb v 4 = a4 at *
  generalize eb v 5 = a5 at *
  generalize eb v 6 = a6 at *
  generalize (ef v : Int) = nn at *
  generalize unpE v = ee2 at *
  have hne := fun w => neq_entry a0 a1 a2 a3 a4 a5 a6 false false false false false false false nn 0 w
  generalize (!(a0 == false && (a1 == false && (a2 == false && (a3 == false && (a4 == false && (a5 == false && (a6 == false && nn == 0)))))))) = rb at *
  go_upto_region 6 with fail
  obtain ⟨W3, hW3⟩ : ∃ W3, W3 = w2.alloc (Obj.cells #[.bool a0, .bool a1, .bool a2, .bool a3, .bool a4, .bool a5, .bool a6, .int .i64 nn] 111) := ⟨_, rfl⟩
  obtain ⟨b8, hb8⟩ : ∃ b, b = w2.heap.size := ⟨_, rfl⟩
  rw [← hW3, ← hb8]
  have hr8 : Row W3 b8 #[.bool a0, .bool a1, .bool a2, .bool a3, .bool a4, .bool a5, .bool a6, .int .i64 nn] 111 := by rw [hW3]; exact Row.new_at _ _ _ hb8
  have hg3 : Grows w2 W3 := by rw [hW3]; exact (Grows.refl _).alloc _
  have hr4 := (HR4.out.grows hg2).grows hg3
  have hg43 := (HG1.out.trans hg2).trans hg3
  have hbne : b4 ≠ b8 := by have := (HR4.out.grows hg2).lt; omega
  have l4 := hr4.lt
  have l8 := hr8.lt
  obtain ⟨x0, x1, x2, x3, x4, x5, x6, x7⟩ : W3.cell? ⟨b8, 0, none⟩ = some (.bool a0) ∧ W3.cell? ⟨b8, 1, none⟩ = some (.bool a1) ∧ W3.cell? ⟨b8, 2, none⟩ = some (.bool a2) ∧ W3.cell? ⟨b8, 3, none⟩ = some (.bool a3) ∧ W3.cell? ⟨b8, 4, none⟩ = some (.bool a4) ∧ W3.cell? ⟨b8, 5, none⟩ = some (.bool a5) ∧ W3.cell? ⟨b8, 6, none⟩ = some (.bool a6) ∧ W3.cell? ⟨b8, 7, none⟩ = some (.int .i64 nn) := ⟨hr8.cell 0, hr8.cell 1, hr8.cell 2, hr8.cell 3, hr8.cell 4, hr8.cell 5, hr8.cell 6, hr8.cell 7⟩
  have f0 := hr4.frozen 0
  have f1 := hr4.frozen 1
  have f2 := hr4.frozen 2
  have f3 := hr4.frozen 3
  have f4 := hr4.frozen 4
  have f5 := hr4.frozen 5
  have f6 := hr4.frozen 6
  have f7 := hr4.frozen 7
  obtain ⟨k0, k1, k2, k3, k4, k5, k6, k7⟩ : W3.cell? ⟨b4, 0, none⟩ = some (.bool false) ∧ W3.cell? ⟨b4, 1, none⟩ = some (.bool false) ∧ W3.cell? ⟨b4, 2, none⟩ = some (.bool false) ∧ W3.cell? ⟨b4, 3, none⟩ = some (.bool false) ∧ W3.cell? ⟨b4, 4, none⟩ = some (.bool false) ∧ W3.cell? ⟨b4, 5, none⟩ = some (.bool false) ∧ W3.cell? ⟨b4, 6, none⟩ = some (.bool false) ∧ W3.cell? ⟨b4, 7, none⟩ = some (.int .i64 0) := ⟨hr4.cell 0, hr4.cell 1, hr4.cell 2, hr4.cell 3, hr4.cell 4, hr4.cell 5, hr4.cell 6, hr4.cell 7⟩
  have HG3 := Lib.hid hg43
  have HR43 := Lib.hid hr4
  clear hW3 hb8 hr8 hg2 hg3 hr4 hg43 HR4 HG1
  go_region
  all_goals
    go_wp2_with fail
    have hF := ((row_fill8 HR43.out a0 a1 a2 a3 a4 a5 a6 nn).grows ((Grows.refl _).drew)).cell
    unfold World.fill8 at hF
    exact bodyPost_ret (v := .tuple #[.agg #[.bool a0, .bool a1, .bool a2, .bool a3, .bool a4, .bool a5, .bool a6, .int .i64 nn], .bool rb]) (by simp [results, Tryd.results51, go_sem, hF]) rfl ⟨by rw [HEN.out, ← HGK'.out], (grows_fill8 HG3.out (by have := HB4.out; omega) _ _ _ _ _ _ _ _).drew⟩
end Go.Proofs.YtlchlklbjocliaaDoor
