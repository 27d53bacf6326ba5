/- The package stage: mapped, Look, Protect. -/
import Derived.Test.YtlchlklbjocliaaDoorStB
namespace Go.Proofs.YtlchlklbjocliaaDoor
open Go Go.RowKit
set_option linter.unusedSimpArgs false
set_option linter.unusedVariables false
set_option maxRecDepth 100000
/-- The number of a page's entry, as it stands; 0: there is none. -/
def rdP (N : Nat) (B : Nat → Nat) (L : Int → Option Int) (page : Nat) : Nat := match L ((page / 32 : Nat) : Int) with
  | some t => gv N B (t.toNat * 256 + 8 * (page % 32))
  | none => 0
theorem entA_no {v : Nat} (h : gok v = false) : entA v = zeroE := by
  have e0 : ∀ k, eb v k = false := fun k => by unfold eb; rw [h]; rfl
  have e1 : ef v = 0 := by unfold ef; rw [h]; rfl
  unfold entA
  rw [e0, e0, e0, e0, e0, e0, e0, e1]
  rfl
theorem entA_zero : entA 0 = zeroE := entA_no gok0
/-- Tables that are open: all that the walks want. -/
structure StAt (w : World) (tb pm pf bl s q N : Nat) (g root : Int) (c : Nat → Int) (L : Int → Option Int) (B : Nat → Nat) : Prop where
  tab : TbAt w tb pm pf bl g root true c
  map : LMap w bl s L
  mem : Mem w pm q N B
  wid : Widths w
  pla : Places w
  low : ∀ k t, L k = some t → 0 ≤ t ∧ t < 65536
  sep : q ≠ tb ∧ q ≠ bl ∧ q ≠ 1 ∧ q ≠ 0
theorem StAt.grows {w w' : World} {tb pm pf bl s q N : Nat} {g root : Int} {c : Nat → Int} {L : Int → Option Int} {B : Nat → Nat} (h : StAt w tb pm pf bl s q N g root c L B) (hg : Grows w w') : StAt w' tb pm pf bl s q N g root c L B :=
  ⟨h.tab.grows hg, h.map.grows hg, MemAt.grows h.mem hg, h.wid.grows hg, h.pla.grows hg, h.low, h.sep⟩
theorem Widths.chg {w w' : World} {q : Nat} (h : Widths w) (hc : Chg [q] w w') (hq : q ≠ 1) : Widths w' :=
  ⟨hc.lt h.1, fun i => by rw [hc.cell h.1 (by simp; exact fun e => hq e.symm)]; exact h.2 i⟩
theorem Places.chg {w w' : World} {q : Nat} (h : Places w) (hc : Chg [q] w w') (hq : q ≠ 0) : Places w' :=
  ⟨hc.lt h.1, fun i => by rw [hc.cell h.1 (by simp; exact fun e => hq e.symm)]; exact h.2 i⟩
/-- The memory was written, nothing else. -/
theorem StAt.wrote {w w' : World} {tb pm pf bl s q N : Nat} {g root : Int} {c : Nat → Int} {L : Int → Option Int} {B C : Nat → Nat} (h : StAt w tb pm pf bl s q N g root c L B) (hM : Mem w' pm q N C) (hc : Chg [q] w w') : StAt w' tb pm pf bl s q N g root c L C :=
  ⟨h.tab.chg hc (by simp; exact fun e => h.sep.1 e.symm), h.map.of_block (hc.get h.map.lt (by simp; exact fun e => h.sep.2.1 e.symm)), hM, h.wid.chg hc h.sep.2.2.1, h.pla.chg hc h.sep.2.2.2, h.low, h.sep⟩
theorem sget_any {w : World} {tb pm pf bl s q N : Nat} {g root : Int} {c : Nat → Int} {L : Int → Option Int} {B : Nat → Nat} (h : StAt w tb pm pf bl s q N g root c L B) {page : Nat} (hp : page < 1024) :
    Calls Tryd.prog 51 #[.pointer (some ⟨tb, 0, none⟩), .int .i64 page] w fun r w' => r = .returned (.tuple #[.agg (entA (rdP N B L page)), .bool (gok (rdP N B L page))]) ∧ Grows w w' := by
  unfold rdP
  cases hl : L ((page / 32 : Nat) : Int) with
  | none =>
    rw [entA_zero, gok0]
    exact get_none h.tab h.map hp hl
  | some t =>
    have ht := h.low _ _ hl
    obtain ⟨t, rfl⟩ := Int.eq_ofNat_of_zero_le ht.1
    exact get_some h.tab h.map h.mem h.wid h.pla hp hl (by omega)
theorem row_fillz {w : World} {b : Nat} {t : TypeId} (h : Row w b zeroE t) (a0 a1 a2 a3 a4 a5 a6 : Bool) (n : Int) :
    Row ((((((((w.setCell ⟨b, 0, none⟩ (.bool a0)).setCell ⟨b, 1, none⟩ (.bool a1)).setCell ⟨b, 2, none⟩ (.bool a2)).setCell ⟨b, 3, none⟩ (.bool a3)).setCell ⟨b, 4, none⟩ (.bool a4)).setCell ⟨b, 5, none⟩ (.bool a5)).setCell ⟨b, 6, none⟩ (.bool a6)).setCell ⟨b, 7, none⟩ (.int .i64 n)) b #[.bool a0, .bool a1, .bool a2, .bool a3, .bool a4, .bool a5, .bool a6, .int .i64 n] t := row_fill8 h a0 a1 a2 a3 a4 a5 a6 n
set_option maxHeartbeats 1000000 in
theorem mapped_any {w : World} {tb pm pf bl s q N : Nat} {g root : Int} {c : Nat → Int} {L : Int → Option Int} {B : Nat → Nat} (h : StAt w tb pm pf bl s q N g root c L B) {page : Nat} (hp : page < 1024) :
    Calls Tryd.prog 44 #[.pointer (some ⟨tb, 0, none⟩), .int .i64 page] w fun r w' => r = .returned (.tuple #[.agg (entA (rdP N B L page)), .int .i64 (if gok (rdP N B L page) then 0 else 14)]) ∧ Grows w w' := by
  have hge := fun W (hg : Grows w W) => sget_any (h.grows hg) hp
  generalize rdP N B L page = v at *
  have HGK := Lib.hid (show gok v = false → entA v = zeroE from entA_no)
  generalize gok v = gk at *
  have HGE := Lib.hid hge
  have hus := usable_open (h.tab.grows ((Grows.refl w).alloc (Obj.cells zeroE 111)))
  have hip := fun W => isPage_ok hp W
  unfold zeroE at hus
  clear h hp hge
  cases gk
  · go_enter Tryd.func44, Tryd.ntmps44
    go_wp2_with fail
    refine (hus).mono ?_
    rintro _ _ ⟨rfl, hw⟩
    rw [hw]
    clear hw
    clear hus
    go_wp2_with fail
    refine (hip _).mono ?_
    rintro _ _ ⟨rfl, hw⟩
    rw [hw]
    clear hw
    clear hip
    go_wp2_with fail
    refine (HGE.out _ ((Grows.refl w).alloc _)).mono ?_
    rintro _ w1 ⟨rfl, hg1⟩
    have hg1' := ((Grows.refl w).alloc (Obj.cells zeroE 111)).trans hg1
    have hr4 : Row w1 w.heap.size zeroE 111 := (Row.new w zeroE 111).grows hg1
    obtain ⟨b4, hb4⟩ : ∃ b, b = w.heap.size := ⟨_, rfl⟩
    rw [← hb4] at hr4 ⊢
    have HB4 := Lib.hid (show w.heap.size ≤ b4 by omega)
    have HG1 := Lib.hid hg1'
    have HR4 := Lib.hid hr4
    clear hg1 hg1' hr4 hb4 HGE
    have HEN := Lib.hid (show entA v = #[.bool (eb v 0), .bool (eb v 1), .bool (eb v 2), .bool (eb v 3), .bool (eb v 4), .bool (eb v 5), .bool (eb v 6), .int .i64 (ef v)] from rfl)
    rw [HEN.out]
    generalize eb v 0 = a0 at *
    generalize eb v 1 = a1 at *
    generalize eb v 2 = a2 at *
    generalize eb v 3 = a3 at *
    generalize eb v 4 = a4 at *
    generalize eb v 5 = a5 at *
    generalize eb v 6 = a6 at *
    generalize (ef v : Int) = nn at *
    go_upto_region 7 with fail
    obtain ⟨W3, hW3⟩ : ∃ W3, W3 = w1.alloc (Obj.cells #[.bool a0, .bool a1, .bool a2, .bool a3, .bool a4, .bool a5, .bool a6, .int .i64 nn] 111) := ⟨_, rfl⟩
    obtain ⟨b8, hb8⟩ : ∃ b, b = w1.heap.size := ⟨_, rfl⟩
    rw [← hW3, ← hb8]
    have hr8 : Row W3 b8 #[.bool a0, .bool a1, .bool a2, .bool a3, .bool a4, .bool a5, .bool a6, .int .i64 nn] 111 := by rw [hW3]; exact Row.new_at _ _ _ hb8
    have hg3 : Grows w1 W3 := by rw [hW3]; exact (Grows.refl _).alloc _
    have hr4 := HR4.out.grows hg3
    have HG3 := Lib.hid (HG1.out.trans hg3)
    have hbne : b4 ≠ b8 := by have := HR4.out.lt; omega
    have l4 := hr4.lt
    have l8 := hr8.lt
    obtain ⟨x0, x1, x2, x3, x4, x5, x6, x7⟩ : W3.cell? ⟨b8, 0, none⟩ = some (.bool a0) ∧ W3.cell? ⟨b8, 1, none⟩ = some (.bool a1) ∧ W3.cell? ⟨b8, 2, none⟩ = some (.bool a2) ∧ W3.cell? ⟨b8, 3, none⟩ = some (.bool a3) ∧ W3.cell? ⟨b8, 4, none⟩ = some (.bool a4) ∧ W3.cell? ⟨b8, 5, none⟩ = some (.bool a5) ∧ W3.cell? ⟨b8, 6, none⟩ = some (.bool a6) ∧ W3.cell? ⟨b8, 7, none⟩ = some (.int .i64 nn) := ⟨hr8.cell 0, hr8.cell 1, hr8.cell 2, hr8.cell 3, hr8.cell 4, hr8.cell 5, hr8.cell 6, hr8.cell 7⟩
    have f0 := hr4.frozen 0
    have f1 := hr4.frozen 1
    have f2 := hr4.frozen 2
    have f3 := hr4.frozen 3
    have f4 := hr4.frozen 4
    have f5 := hr4.frozen 5
    have f6 := hr4.frozen 6
    have f7 := hr4.frozen 7
    obtain ⟨k0, k1, k2, k3, k4, k5, k6, k7⟩ : W3.cell? ⟨b4, 0, none⟩ = some (.bool false) ∧ W3.cell? ⟨b4, 1, none⟩ = some (.bool false) ∧ W3.cell? ⟨b4, 2, none⟩ = some (.bool false) ∧ W3.cell? ⟨b4, 3, none⟩ = some (.bool false) ∧ W3.cell? ⟨b4, 4, none⟩ = some (.bool false) ∧ W3.cell? ⟨b4, 5, none⟩ = some (.bool false) ∧ W3.cell? ⟨b4, 6, none⟩ = some (.bool false) ∧ W3.cell? ⟨b4, 7, none⟩ = some (.int .i64 0) := ⟨hr4.cell 0, hr4.cell 1, hr4.cell 2, hr4.cell 3, hr4.cell 4, hr4.cell 5, hr4.cell 6, hr4.cell 7⟩
    have HR43 := Lib.hid hr4
    clear hW3 hb8 hr8 hg3 hr4 HR4 HG1
    have HZ := Lib.hid (HGK.out trivial)
    go_wp2_with fail
    have hF := (row_fillz HR43.out false false false false false false false 0).cell
    exact bodyPost_ret (v := .tuple #[.agg zeroE, .int .i64 14]) (by simp [results, Tryd.results44, go_sem, hF, zeroE]) rfl ⟨by rw [HZ.out], grows_fill8 HG3.out HB4.out _ _ _ _ _ _ _ _⟩
  · go_enter Tryd.func44, Tryd.ntmps44
    go_wp2_with fail
    refine (hus).mono ?_
    rintro _ _ ⟨rfl, hw⟩
    rw [hw]
    clear hw
    clear hus
    go_wp2_with fail
    refine (hip _).mono ?_
    rintro _ _ ⟨rfl, hw⟩
    rw [hw]
    clear hw
    clear hip
    go_wp2_with fail
    refine (HGE.out _ ((Grows.refl w).alloc _)).mono ?_
    rintro _ w1 ⟨rfl, hg1⟩
    have hg1' := ((Grows.refl w).alloc (Obj.cells zeroE 111)).trans hg1
    have hr4 : Row w1 w.heap.size zeroE 111 := (Row.new w zeroE 111).grows hg1
    obtain ⟨b4, hb4⟩ : ∃ b, b = w.heap.size := ⟨_, rfl⟩
    rw [← hb4] at hr4 ⊢
    have HB4 := Lib.hid (show w.heap.size ≤ b4 by omega)
    have HG1 := Lib.hid hg1'
    have HR4 := Lib.hid hr4
    clear hg1 hg1' hr4 hb4 HGE
    have HEN := Lib.hid (show entA v = #[.bool (eb v 0), .bool (eb v 1), .bool (eb v 2), .bool (eb v 3), .bool (eb v 4), .bool (eb v 5), .bool (eb v 6), .int .i64 (ef v)] from rfl)
    rw [HEN.out]
    generalize eb v 0 = a0 at *
    generalize eb v 1 = a1 at *
    generalize eb v 2 = a2 at *
    generalize eb v 3 = a3 at *
    generalize eb v 4 = a4 at *
    generalize eb v 5 = a5 at *
    generalize eb v 6 = a6 at *
    generalize (ef v : Int) = nn at *
    go_upto_region 7 with fail
    obtain ⟨W3, hW3⟩ : ∃ W3, W3 = w1.alloc (Obj.cells #[.bool a0, .bool a1, .bool a2, .bool a3, .bool a4, .bool a5, .bool a6, .int .i64 nn] 111) := ⟨_, rfl⟩
    obtain ⟨b8, hb8⟩ : ∃ b, b = w1.heap.size := ⟨_, rfl⟩
    rw [← hW3, ← hb8]
    have hr8 : Row W3 b8 #[.bool a0, .bool a1, .bool a2, .bool a3, .bool a4, .bool a5, .bool a6, .int .i64 nn] 111 := by rw [hW3]; exact Row.new_at _ _ _ hb8
    have hg3 : Grows w1 W3 := by rw [hW3]; exact (Grows.refl _).alloc _
    have hr4 := HR4.out.grows hg3
    have HG3 := Lib.hid (HG1.out.trans hg3)
    have hbne : b4 ≠ b8 := by have := HR4.out.lt; omega
    have l4 := hr4.lt
    have l8 := hr8.lt
    obtain ⟨x0, x1, x2, x3, x4, x5, x6, x7⟩ : W3.cell? ⟨b8, 0, none⟩ = some (.bool a0) ∧ W3.cell? ⟨b8, 1, none⟩ = some (.bool a1) ∧ W3.cell? ⟨b8, 2, none⟩ = some (.bool a2) ∧ W3.cell? ⟨b8, 3, none⟩ = some (.bool a3) ∧ W3.cell? ⟨b8, 4, none⟩ = some (.bool a4) ∧ W3.cell? ⟨b8, 5, none⟩ = some (.bool a5) ∧ W3.cell? ⟨b8, 6, none⟩ = some (.bool a6) ∧ W3.cell? ⟨b8, 7, none⟩ = some (.int .i64 nn) := ⟨hr8.cell 0, hr8.cell 1, hr8.cell 2, hr8.cell 3, hr8.cell 4, hr8.cell 5, hr8.cell 6, hr8.cell 7⟩
    have f0 := hr4.frozen 0
    have f1 := hr4.frozen 1
    have f2 := hr4.frozen 2
    have f3 := hr4.frozen 3
    have f4 := hr4.frozen 4
    have f5 := hr4.frozen 5
    have f6 := hr4.frozen 6
    have f7 := hr4.frozen 7
    obtain ⟨k0, k1, k2, k3, k4, k5, k6, k7⟩ : W3.cell? ⟨b4, 0, none⟩ = some (.bool false) ∧ W3.cell? ⟨b4, 1, none⟩ = some (.bool false) ∧ W3.cell? ⟨b4, 2, none⟩ = some (.bool false) ∧ W3.cell? ⟨b4, 3, none⟩ = some (.bool false) ∧ W3.cell? ⟨b4, 4, none⟩ = some (.bool false) ∧ W3.cell? ⟨b4, 5, none⟩ = some (.bool false) ∧ W3.cell? ⟨b4, 6, none⟩ = some (.bool false) ∧ W3.cell? ⟨b4, 7, none⟩ = some (.int .i64 0) := ⟨hr4.cell 0, hr4.cell 1, hr4.cell 2, hr4.cell 3, hr4.cell 4, hr4.cell 5, hr4.cell 6, hr4.cell 7⟩
    have HR43 := Lib.hid hr4
    clear hW3 hb8 hr8 hg3 hr4 HR4 HG1
    go_wp2_with fail
    have hF := (row_fillz HR43.out a0 a1 a2 a3 a4 a5 a6 nn).cell
    exact bodyPost_ret (v := .tuple #[.agg #[.bool a0, .bool a1, .bool a2, .bool a3, .bool a4, .bool a5, .bool a6, .int .i64 nn], .int .i64 0]) (by simp [results, Tryd.results44, go_sem, hF]) rfl ⟨by rw [HEN.out], grows_fill8 HG3.out HB4.out _ _ _ _ _ _ _ _⟩
theorem row_putb3 {w : World} {b : Nat} {t : TypeId} {x0 x1 x2 : Value} (h : Row w b #[x0, x1, x2] t) (x y z : Bool) :
    Row (((w.setCell ⟨b, 0, none⟩ (.bool x)).setCell ⟨b, 1, none⟩ (.bool y)).setCell ⟨b, 2, none⟩ (.bool z)) b #[.bool x, .bool y, .bool z] t := by
  have h0 := row_setCell h (i := 0) (by simp) (.bool x)
  have h1 := row_setCell h0 (i := 1) (by simp) (.bool y)
  have h2 := row_setCell h1 (i := 2) (by simp) (.bool z)
  simpa using h2
set_option maxHeartbeats 1000000 in
theorem Look_any {w : World} {tb pm pf bl s q N : Nat} {g root : Int} {c : Nat → Int} {L : Int → Option Int} {B : Nat → Nat} (h : StAt w tb pm pf bl s q N g root c L B) {page : Nat} (hp : page < 1024) :
    Calls Tryd.prog 13 #[.pointer (some ⟨tb, 0, none⟩), .int .i64 page] w fun r w' => r = .returned (.tuple #[.int .i64 (ef (rdP N B L page)), .agg #[.bool (eb (rdP N B L page) 1), .bool (eb (rdP N B L page) 2), .bool (eb (rdP N B L page) 3)], .bool (gok (rdP N B L page))]) ∧ Grows w w' := by
  have hma := fun W (hg : Grows w W) => mapped_any (h.grows hg) hp
  generalize rdP N B L page = v at *
  have HNO := Lib.hid (show gok v = false → ef v = 0 ∧ eb v 1 = false ∧ eb v 2 = false ∧ eb v 3 = false from fun hh => ⟨by unfold ef; rw [hh]; rfl, by unfold eb; rw [hh]; rfl, by unfold eb; rw [hh]; rfl, by unfold eb; rw [hh]; rfl⟩)
  have hen : entA v = #[.bool (eb v 0), .bool (eb v 1), .bool (eb v 2), .bool (eb v 3), .bool (eb v 4), .bool (eb v 5), .bool (eb v 6), .int .i64 (ef v)] := rfl
  rw [hen] at hma
  clear hen
  generalize gok v = gk at *
  have HMA := Lib.hid hma
  clear h hp hma
  cases gk
  · obtain ⟨z0, z1, z2, z3⟩ := HNO.out rfl
    rw [z0, z1, z2, z3] at HMA
    rw [z0, z1, z2, z3]
    clear z0 z1 z2 z3 HNO
    go_enter Tryd.func13, Tryd.ntmps13
    go_wp2_with fail
    refine (HMA.out _ ((Grows.refl w).alloc _)).mono ?_
    rintro _ w1 ⟨rfl, hg1⟩
    have hg1' := ((Grows.refl w).alloc (Obj.cells #[.bool false, .bool false, .bool false] 23)).trans hg1
    have hr5 : Row w1 w.heap.size #[.bool false, .bool false, .bool false] 23 := (Row.new w #[.bool false, .bool false, .bool false] 23).grows hg1
    obtain ⟨b5, hb5⟩ : ∃ b, b = w.heap.size := ⟨_, rfl⟩
    rw [← hb5] at hr5 ⊢
    have HB5 := Lib.hid (show w.heap.size ≤ b5 by omega)
    have HG1 := Lib.hid hg1'
    have HR5 := Lib.hid hr5
    clear hg1 hg1' hr5 hb5 HMA
    go_upto_region 2 with fail
    obtain ⟨W3, hW3⟩ : ∃ W3, W3 = w1.alloc (Obj.cells #[.bool (eb v 0), .bool false, .bool false, .bool false, .bool (eb v 4), .bool (eb v 5), .bool (eb v 6), .int .i64 0] 111) := ⟨_, rfl⟩
    obtain ⟨b7, hb7⟩ : ∃ b, b = w1.heap.size := ⟨_, rfl⟩
    rw [← hW3, ← hb7]
    have HR7 := Lib.hid (show Row W3 b7 #[.bool (eb v 0), .bool false, .bool false, .bool false, .bool (eb v 4), .bool (eb v 5), .bool (eb v 6), .int .i64 0] 111 by rw [hW3]; exact Row.new_at _ _ _ hb7)
    have hg3 : Grows w1 W3 := by rw [hW3]; exact (Grows.refl _).alloc _
    have HR53 := Lib.hid (HR5.out.grows hg3)
    have HG3 := Lib.hid (HG1.out.trans hg3)
    have hbne : b5 ≠ b7 := by have := HR5.out.lt; omega
    clear hW3 hb7 hg3 HR5 HG1
    have l5 := HR53.out.lt
    have l7 := HR7.out.lt
    have y1 : W3.cell? ⟨b7, 1, none⟩ = some (.bool false) := HR7.out.cell 1
    have y2 : W3.cell? ⟨b7, 2, none⟩ = some (.bool false) := HR7.out.cell 2
    have y3 : W3.cell? ⟨b7, 3, none⟩ = some (.bool false) := HR7.out.cell 3
    have y7 : W3.cell? ⟨b7, 7, none⟩ = some (.int .i64 0) := HR7.out.cell 7
    have f0 := HR53.out.frozen 0
    have f1 := HR53.out.frozen 1
    have f2 := HR53.out.frozen 2
    have k0 : W3.cell? ⟨b5, 0, none⟩ = some (.bool false) := HR53.out.cell 0
    have k1 : W3.cell? ⟨b5, 1, none⟩ = some (.bool false) := HR53.out.cell 1
    have k2 : W3.cell? ⟨b5, 2, none⟩ = some (.bool false) := HR53.out.cell 2
    go_wp2_with fail
    have hF := (row_putb3 HR53.out false false false).cell
    exact bodyPost_ret (v := .tuple #[.int .i64 0, .agg #[.bool false, .bool false, .bool false], .bool false]) (by simp [results, Tryd.results13, go_sem, hF]) rfl ⟨rfl, ((HG3.out.setCell HB5.out _).setCell HB5.out _).setCell HB5.out _⟩
  · clear HNO
    go_enter Tryd.func13, Tryd.ntmps13
    go_wp2_with fail
    refine (HMA.out _ ((Grows.refl w).alloc _)).mono ?_
    rintro _ w1 ⟨rfl, hg1⟩
    have hg1' := ((Grows.refl w).alloc (Obj.cells #[.bool false, .bool false, .bool false] 23)).trans hg1
    have hr5 : Row w1 w.heap.size #[.bool false, .bool false, .bool false] 23 := (Row.new w #[.bool false, .bool false, .bool false] 23).grows hg1
    obtain ⟨b5, hb5⟩ : ∃ b, b = w.heap.size := ⟨_, rfl⟩
    rw [← hb5] at hr5 ⊢
    have HB5 := Lib.hid (show w.heap.size ≤ b5 by omega)
    have HG1 := Lib.hid hg1'
    have HR5 := Lib.hid hr5
    clear hg1 hg1' hr5 hb5 HMA
    go_upto_region 2 with fail
    obtain ⟨W3, hW3⟩ : ∃ W3, W3 = w1.alloc (Obj.cells #[.bool (eb v 0), .bool (eb v 1), .bool (eb v 2), .bool (eb v 3), .bool (eb v 4), .bool (eb v 5), .bool (eb v 6), .int .i64 (ef v)] 111) := ⟨_, rfl⟩
    obtain ⟨b7, hb7⟩ : ∃ b, b = w1.heap.size := ⟨_, rfl⟩
    rw [← hW3, ← hb7]
    have HR7 := Lib.hid (show Row W3 b7 #[.bool (eb v 0), .bool (eb v 1), .bool (eb v 2), .bool (eb v 3), .bool (eb v 4), .bool (eb v 5), .bool (eb v 6), .int .i64 (ef v)] 111 by rw [hW3]; exact Row.new_at _ _ _ hb7)
    have hg3 : Grows w1 W3 := by rw [hW3]; exact (Grows.refl _).alloc _
    have HR53 := Lib.hid (HR5.out.grows hg3)
    have HG3 := Lib.hid (HG1.out.trans hg3)
    have hbne : b5 ≠ b7 := by have := HR5.out.lt; omega
    clear hW3 hb7 hg3 HR5 HG1
    have l5 := HR53.out.lt
    have l7 := HR7.out.lt
    have y1 : W3.cell? ⟨b7, 1, none⟩ = some (.bool (eb v 1)) := HR7.out.cell 1
    have y2 : W3.cell? ⟨b7, 2, none⟩ = some (.bool (eb v 2)) := HR7.out.cell 2
    have y3 : W3.cell? ⟨b7, 3, none⟩ = some (.bool (eb v 3)) := HR7.out.cell 3
    have y7 : W3.cell? ⟨b7, 7, none⟩ = some (.int .i64 (ef v)) := HR7.out.cell 7
    have f0 := HR53.out.frozen 0
    have f1 := HR53.out.frozen 1
    have f2 := HR53.out.frozen 2
    have k0 : W3.cell? ⟨b5, 0, none⟩ = some (.bool false) := HR53.out.cell 0
    have k1 : W3.cell? ⟨b5, 1, none⟩ = some (.bool false) := HR53.out.cell 1
    have k2 : W3.cell? ⟨b5, 2, none⟩ = some (.bool false) := HR53.out.cell 2
    go_wp2_with fail
    go_region
    all_goals
      go_wp2_with fail
      have hF := ((row_putb3 HR53.out (eb v 1) (eb v 2) (eb v 3)).grows ((Grows.refl _).drew)).cell
      exact bodyPost_ret (v := .tuple #[.int .i64 (ef v), .agg #[.bool (eb v 1), .bool (eb v 2), .bool (eb v 3)], .bool true]) (by simp [results, Tryd.results13, go_sem, hF]) rfl ⟨rfl, (((HG3.out.setCell HB5.out _).setCell HB5.out _).setCell HB5.out _).drew⟩
theorem StAt.look {w : World} {tb pm pf bl s q N : Nat} {g root : Int} {c : Nat → Int} {L : Int → Option Int} {B : Nat → Nat} (h : StAt w tb pm pf bl s q N g root c L B) {k : Nat} (hk : k < 1024) {t : Int} (hl : L (k : Int) = some t) :
    (Instr.lookup 29 (.map (some bl)) (.int .i64 k) false).run Tryd.prog w = .ok (.int .i64 t) w := by
  have := (h.map.look Tryd.underlying3 Tryd.underlying3 Tryd.underlying29 (zero_int' w) (K := (k : Int)) (wf_of (by omega) (by omega))).1
  rw [hl] at this
  exact this
theorem Protect_bad {w : World} {tb pm pf bl s q N : Nat} {g root : Int} {c : Nat → Int} {L : Int → Option Int} {B : Nat → Nat} (h : StAt w tb pm pf bl s q N g root c L B) (page : Int) (r x1 x2 : Bool) (hr : rightR r x1 x2 = false) :
    Calls Tryd.prog 17 #[.pointer (some ⟨tb, 0, none⟩), .int .i64 page, .agg #[.bool r, .bool x1, .bool x2]] w fun e w' => e = .returned (.int .i64 2) ∧ Grows w w' := by
  have HH := Lib.hid h
  have hsr := fun W => srights_any r x1 x2 W
  rw [hr] at hsr
  clear h hr
  go_enter Tryd.func17, Tryd.ntmps17
  go_wp2_with fail
  refine (usable_open (HH.out.tab.grows ((Grows.refl w).alloc _))).mono ?_
  rintro _ _ ⟨rfl, hw⟩
  rw [hw]
  clear hw
  go_wp2_with fail
  refine (hsr _).mono ?_
  rintro _ w1 ⟨rfl, hg1⟩
  have HG := Lib.hid (((Grows.refl w).alloc (Obj.cells #[.bool r, .bool x1, .bool x2] 23)).trans hg1)
  clear hsr hg1
  go_wp2_with fail
  go_ret
  exact ⟨rfl, HG.out⟩
set_option maxHeartbeats 1000000 in
theorem Protect_none {w : World} {tb pm pf bl s q N : Nat} {g root : Int} {c : Nat → Int} {L : Int → Option Int} {B : Nat → Nat} (h : StAt w tb pm pf bl s q N g root c L B) {page : Nat} (hp : page < 1024) (r x1 x2 : Bool) (hr : rightR r x1 x2 = true) (hg : gok (rdP N B L page) = false) :
    Calls Tryd.prog 17 #[.pointer (some ⟨tb, 0, none⟩), .int .i64 page, .agg #[.bool r, .bool x1, .bool x2]] w fun e w' => e = .returned (.int .i64 14) ∧ Grows w w' := by
  have HH := Lib.hid h
  have hsr := fun W => srights_any r x1 x2 W
  rw [hr] at hsr
  have hma := fun W (hg : Grows w W) => mapped_any (h.grows hg) hp
  rw [hg, entA_no hg] at hma
  unfold zeroE at hma
  have HMA := Lib.hid hma
  clear h hr hg hma hp
  go_enter Tryd.func17, Tryd.ntmps17
  go_wp2_with fail
  refine (usable_open (HH.out.tab.grows ((Grows.refl w).alloc _))).mono ?_
  rintro _ _ ⟨rfl, hw⟩
  rw [hw]
  clear hw
  go_wp2_with fail
  refine (hsr _).mono ?_
  rintro _ w1 ⟨rfl, hg1⟩
  have HG := Lib.hid (((Grows.refl w).alloc (Obj.cells #[.bool r, .bool x1, .bool x2] 23)).trans hg1)
  clear hsr hg1
  go_wp2_with fail
  refine (HMA.out _ HG.out).mono ?_
  rintro _ w2 ⟨rfl, hg2⟩
  have HG2 := Lib.hid (HG.out.trans hg2)
  clear hg2 HG HMA
  go_wp2_with fail
  go_ret
  exact ⟨rfl, HG2.out.alloc _⟩
set_option maxHeartbeats 2000000 in
theorem Protect_ok {w : World} {tb pm pf bl s q N : Nat} {g root : Int} {c : Nat → Int} {L : Int → Option Int} {B : Nat → Nat} (h : StAt w tb pm pf bl s q N g root c L B) {page t : Nat} (hp : page < 1024) (r x1 x2 : Bool) (hr : rightR r x1 x2 = true) (hg : gok (rdP N B L page) = true) (hl : L ((page / 32 : Nat) : Int) = some (t : Int)) (hin : t * 256 + 256 ≤ N) :
    Calls Tryd.prog 17 #[.pointer (some ⟨tb, 0, none⟩), .int .i64 page, .agg #[.bool r, .bool x1, .bool x2]] w fun e w' => e = .returned (.int .i64 0) ∧ Mem w' pm q N (putB B (t * 256 + 8 * (page % 32)) (leB (packN true r x1 x2 true false false (ef (rdP N B L page))) 8)) ∧ Chg [q] w w' := by
  have HH := Lib.hid h
  have hsr := fun W => srights_any r x1 x2 W
  rw [hr] at hsr
  have hma := fun W (hg : Grows w W) => mapped_any (h.grows hg) hp
  have hen : entA (rdP N B L page) = #[.bool (eb (rdP N B L page) 0), .bool (eb (rdP N B L page) 1), .bool (eb (rdP N B L page) 2), .bool (eb (rdP N B L page) 3), .bool (eb (rdP N B L page) 4), .bool (eb (rdP N B L page) 5), .bool (eb (rdP N B L page) 6), .int .i64 (ef (rdP N B L page))] := rfl
  rw [hg, hen] at hma
  have HMA := Lib.hid hma
  have ht := (h.low _ _ hl).2
  obtain ⟨q1, q2, q3, q4⟩ := pageQR hp
  have hlk := fun W (C : Nat → Nat) (h : StAt W tb pm pf bl s q N g root c L C) => h.look (k := page / 32) (by omega) hl
  have hlf := fun W => sleaf_any r x1 x2 (ef (rdP N B L page)) W
  have hpu := fun W (h : StAt W tb pm pf bl s q N g root c L B) => put_any h.tab h.mem h.wid h.pla (t := t) (pl := page % 32) (by omega) (by omega) (by omega) h.sep.1 true r x1 x2 true false false (ef (rdP N B L page))
  unfold pgL at hlf
  have HPU := Lib.hid hpu
  have HLF := Lib.hid hlf
  have HLK := Lib.hid hlk
  generalize rdP N B L page = v at *
  generalize page / 32 = kq at *
  generalize page % 32 = pr at *
  clear h hr hg hma hp hen hl hin hpu hlf hlk
  go_enter Tryd.func17, Tryd.ntmps17
  go_wp2_with fail
  refine (usable_open (HH.out.tab.grows ((Grows.refl w).alloc _))).mono ?_
  rintro _ _ ⟨rfl, hw⟩
  rw [hw]
  clear hw
  go_wp2_with fail
  refine (hsr _).mono ?_
  rintro _ w1 ⟨rfl, hg1⟩
  obtain ⟨b5, hb5⟩ : ∃ b, b = w.heap.size := ⟨_, rfl⟩
  have hq5 : b5 ≠ q := by have := HH.out.mem.qlt; omega
  have HR5 := Lib.hid (show Row w1 b5 #[.bool r, .bool x1, .bool x2] 23 by rw [hb5]; exact (Row.new w #[.bool r, .bool x1, .bool x2] 23).grows hg1)
  have HG := Lib.hid (((Grows.refl w).alloc (Obj.cells #[.bool r, .bool x1, .bool x2] 23)).trans hg1)
  rw [← hb5]
  clear hsr hg1 hb5
  go_wp2_with fail
  refine (HMA.out _ HG.out).mono ?_
  rintro _ w2 ⟨rfl, hg2⟩
  have HG2 := Lib.hid (HG.out.trans hg2)
  have HR52 := Lib.hid (HR5.out.grows hg2)
  clear hg2 HG HMA HR5
  go_upto_region 5 with fail
  obtain ⟨W3, hW3⟩ : ∃ W3, W3 = w2.alloc (Obj.cells #[.bool (eb v 0), .bool (eb v 1), .bool (eb v 2), .bool (eb v 3), .bool (eb v 4), .bool (eb v 5), .bool (eb v 6), .int .i64 (ef v)] 111) := ⟨_, rfl⟩
  obtain ⟨b7, hb7⟩ : ∃ b, b = w2.heap.size := ⟨_, rfl⟩
  rw [← hW3, ← hb7]
  have HR7 := Lib.hid (show Row W3 b7 #[.bool (eb v 0), .bool (eb v 1), .bool (eb v 2), .bool (eb v 3), .bool (eb v 4), .bool (eb v 5), .bool (eb v 6), .int .i64 (ef v)] 111 by rw [hW3]; exact Row.new_at _ _ _ hb7)
  have hg3 : Grows w2 W3 := by rw [hW3]; exact (Grows.refl _).alloc _
  have hq7 : b7 ≠ q := by have := (HH.out.grows HG2.out).mem.qlt; omega
  have HR53 := Lib.hid (HR52.out.grows hg3)
  have HG3 := Lib.hid (HG2.out.trans hg3)
  have HS3 := Lib.hid (HH.out.grows HG3.out)
  have hsep := HS3.out.sep
  have hltt := HS3.out.tab.row.lt
  have l5 := HR53.out.lt
  have l7 := HR7.out.lt
  clear hW3 hb7 hg3 HR52 HG2 HH
  have HSG := Lib.hid (fun (w' : World) (C : Nat → Nat) (hs : StAt w' tb pm pf bl s q N g root c L C) (h7 : Row w' b7 #[.bool (eb v 0), .bool (eb v 1), .bool (eb v 2), .bool (eb v 3), .bool (eb v 4), .bool (eb v 5), .bool (eb v 6), .int .i64 (ef v)] 111) (h5 : Row w' b5 #[.bool r, .bool x1, .bool x2] 23) => (⟨hs.tab.cells.2.2.2.2.2.1, HLK.out w' C hs, h7.cell 7, h5.cell 0, h5.cell 1, h5.cell 2⟩ : w'.cell? ⟨tb, 5, none⟩ = some (.map (some bl)) ∧ (Instr.lookup 29 (.map (some bl)) (.int .i64 kq) false).run Tryd.prog w' = .ok (.int .i64 t) w' ∧ w'.cell? ⟨b7, 7, none⟩ = some (.int .i64 (ef v)) ∧ w'.cell? ⟨b5, 0, none⟩ = some (.bool r) ∧ w'.cell? ⟨b5, 1, none⟩ = some (.bool x1) ∧ w'.cell? ⟨b5, 2, none⟩ = some (.bool x2)))
  go_region_held3 (fun w' => w'.cell? ⟨tb, 5, none⟩ = some (.map (some bl)) ∧ (Instr.lookup 29 (.map (some bl)) (.int .i64 kq) false).run Tryd.prog w' = .ok (.int .i64 t) w' ∧ w'.cell? ⟨b7, 7, none⟩ = some (.int .i64 (ef v)) ∧ w'.cell? ⟨b5, 0, none⟩ = some (.bool r) ∧ w'.cell? ⟨b5, 1, none⟩ = some (.bool x1) ∧ w'.cell? ⟨b5, 2, none⟩ = some (.bool x2)) (first
    | with_reducible exact HSG.out _ _ ((HS3.out.grows HG5.out).wrote HM6.out HC6.out) ((HR7.out.grows HG5.out).chg HC6.out (by simp; exact hq7)) ((HR53.out.grows HG5.out).chg HC6.out (by simp; exact hq5))
    | with_reducible exact HSG.out _ _ (HS3.out.grows HG5.out) (HR7.out.grows HG5.out) (HR53.out.grows HG5.out)
    | with_reducible exact HSG.out _ _ (HS3.out.grows ((Grows.refl _).drew)) (HR7.out.grows ((Grows.refl _).drew)) (HR53.out.grows ((Grows.refl _).drew))) (first
    | (go_at_call 53; refine (HLF.out _).mono ?_; rintro _ w5 ⟨rfl, hg5⟩
       have HG5 : Hid (Grows W3 w5) := Lib.hid (((Grows.refl _).drew).trans hg5)
       clear hg5)
    | (go_at_call 45; refine (HPU.out _ (HS3.out.grows HG5.out)).mono ?_; rintro _ w6 ⟨⟨vv, rfl⟩, hM6, hC6⟩
       have HM6 := Lib.hid hM6
       have HC6 := Lib.hid hC6
       clear hM6 hC6))
  all_goals
    clear HSG HLK
    go_wp2_with fail
    go_ret
    exact ⟨rfl, HM6.out, (Chg.of_grows (HG3.out.trans HG5.out)).trans HC6.out⟩
end Go.Proofs.YtlchlklbjocliaaDoor
