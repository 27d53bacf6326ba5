/- The package walk over a memory: fault, through. -/
import Derived.Test.YtnkmelhggnelmaaDoorWkA
import Derived.StillTailTactics
import Derived.Deep.RegionHeld3
import Derived.Deep.RegionWith
namespace Go.Proofs.YtnkmelhggnelmaaDoor
open Go Go.RowKit
set_option linter.unusedSimpArgs false
set_option linter.unusedVariables false
set_option maxRecDepth 100000
def fltZ (k : Int) (s : Bool) : Int := (if k = 0 then 12 else if k = 2 then 15 else 13) + (if s then 8 else 0)
theorem fault_any (k : Int) (s : Bool) (w : World) :
    Calls Tryd.prog 14 #[.int .i64 k, .bool s] w fun r w' => r = .returned (.int .i64 (fltZ k s)) ∧ w' = w := by
  by_cases h0 : k = 0
  · subst h0
    cases s
    · go_enter Tryd.func14, Tryd.ntmps14
      go_wp2_with fail
      go_ret
      exact ⟨rfl, rfl⟩
    · go_enter Tryd.func14, Tryd.ntmps14
      go_wp2_with fail
      go_ret
      exact ⟨rfl, rfl⟩
  · by_cases h2 : k = 2
    · subst h2
      cases s
      · go_enter Tryd.func14, Tryd.ntmps14
        go_wp2_with fail
        go_ret
        exact ⟨rfl, rfl⟩
      · go_enter Tryd.func14, Tryd.ntmps14
        go_wp2_with fail
        go_ret
        exact ⟨rfl, rfl⟩
    · have e0 : (k == 0) = false := by simp [h0]
      have e2 : (k == 2) = false := by simp [h2]
      have hz : fltZ k s = 13 + (if s then 8 else 0) := by unfold fltZ; rw [if_neg h0, if_neg h2]
      rw [hz]
      clear h0 h2 hz
      cases s
      · go_enter Tryd.func14, Tryd.ntmps14
        go_wp2_with fail
        go_ret
        exact ⟨rfl, rfl⟩
      · go_enter Tryd.func14, Tryd.ntmps14
        go_wp2_with fail
        go_ret
        exact ⟨rfl, rfl⟩
theorem fltZ_pos (k : Int) (s : Bool) : fltZ k s ≠ 0 := by
  unfold fltZ
  cases s <;> (split; omega; split <;> omega)
/-- The walker. -/
def wkL (p : Nat) (sec : Int) (A : Nat) (k lv : Int) : Array Value := #[rdr p, .int .i64 sec, .int .u64 A, .int .i64 k, .int .i64 lv]
def zeroT : Array Value := #[.int .i64 0, .int .u64 0, .int .u64 0]
def trA (o : Option Nat) (k : Int) (A g : Nat) : Array Value := match o with
  | some _ => zeroT
  | none => #[.int .i64 (fltZ k true), .int .u64 A, .int .u64 g]
theorem one_all {w : World} {p q N : Nat} {B : Nat → Nat} (hW : Widths w) (hP : Places w) (h : Mem w p q N B) (root : Int) {A : Nat} (hA : A < 18446744073709551616) (k : Int) (u : Bool) :
    Calls Tryd.prog 8 #[rdr p, .int .i64 root, .int .u64 A, .int .i64 k, .bool u] w fun r w' => r = .returned (.tuple #[.agg (fndA (oneV N B root A k u)), .bool (oneV N B root A k u).isSome]) ∧ Grows w w' := by
  by_cases hh : A < 262144 ∧ 0 ≤ root ∧ root ≤ 1099511627776
  · obtain ⟨rt, rfl⟩ := Int.eq_ofNat_of_zero_le hh.2.1
    exact one_in hW hP h hh.1 (by omega) k u
  · have : oneV N B root A k u = none := by unfold oneV; rw [if_neg hh]
    rw [this]
    exact one_no hA k u hh
theorem row_fill3 {w : World} {b : Nat} {t : TypeId} (h : Row w b zeroT t) (x : Int) (y z : Int) :
    Row (((w.setCell ⟨b, 0, none⟩ (.int .i64 x)).setCell ⟨b, 1, none⟩ (.int .u64 y)).setCell ⟨b, 2, none⟩ (.int .u64 z)) b #[.int .i64 x, .int .u64 y, .int .u64 z] t :=
  ((h.put 0 (.int .i64 x)).put 1 (.int .u64 y)).put 2 (.int .u64 z)
theorem grows_fill3 {a w : World} (h : Grows a w) {b : Nat} (hb : a.heap.size ≤ b) (x y z : Int) :
    Grows a (((w.setCell ⟨b, 0, none⟩ (.int .i64 x)).setCell ⟨b, 1, none⟩ (.int .u64 y)).setCell ⟨b, 2, none⟩ (.int .u64 z)) :=
  ((h.setCell hb _).setCell hb _).setCell hb _
theorem row_over3 {w : World} {b b' : Nat} {t : TypeId} {c : Array Value} (h : Row w b c t) (hn : b' ≠ b) (x y z : Int) :
    Row (((w.setCell ⟨b', 0, none⟩ (.int .i64 x)).setCell ⟨b', 1, none⟩ (.int .u64 y)).setCell ⟨b', 2, none⟩ (.int .u64 z)) b c t :=
  row_setOther (row_setOther (row_setOther h hn _) hn _) hn _
theorem row_over6 {w : World} {b b' : Nat} {t : TypeId} {c : Array Value} (h : Row w b c t) (hn : b' ≠ b) (n k : Int) (b1 b2 b3 b4 : Bool) :
    Row ((((((w.setCell ⟨b', 0, none⟩ (.int .i64 n)).setCell ⟨b', 1, none⟩ (.bool b1)).setCell ⟨b', 2, none⟩ (.bool b2)).setCell ⟨b', 3, none⟩ (.bool b3)).setCell ⟨b', 4, none⟩ (.bool b4)).setCell ⟨b', 5, none⟩ (.int .i64 k)) b c t :=
  row_setOther (row_setOther (row_setOther (row_setOther (row_setOther (row_setOther h hn _) hn _) hn _) hn _) hn _) hn _
set_option maxHeartbeats 1000000 in
theorem through_any {w : World} {p q N wb : Nat} {B : Nat → Nat} (hW : Widths w) (hP : Places w) (h : Mem w p q N B) {sec : Int} {A : Nat} {k lv : Int} (hr : Row w wb (wkL p sec A k lv) 61) (hl : 0 ≤ lv ∧ lv ≤ 100) {g : Nat} (hg : g < 18446744073709551616) (k2 : Int) :
    Calls Tryd.prog 20 #[.pointer (some ⟨wb, 0, none⟩), .int .u64 g, .int .i64 k2] w fun r w' => r = .returned (.tuple #[.agg (fndA (oneV N B sec g k2 true)), .agg (trA (oneV N B sec g k2 true) k A g)]) ∧ Row w' wb (wkL p sec A k (lv + if (oneV N B sec g k2 true).isSome then 2 else 0)) 61 ∧ Chg [wb] w w' := by
  have hon := fun W (hg' : Grows w W) => one_all (hW.grows hg') (hP.grows hg') (MemAt.grows h hg') sec hg k2 true
  obtain ⟨o, ho⟩ : ∃ o, o = oneV N B sec g k2 true := ⟨_, rfl⟩
  rw [← ho] at hon ⊢
  clear hW hP h ho hg
  unfold rdr at hon
  have hne61 : Hid (0 ≤ lv ∧ lv ≤ 100) := Lib.hid hl
  clear hl
  cases o with
  | none =>
    have HON := Lib.hid (show ∀ W, Grows w W → Calls Tryd.prog 8 #[.iface 29 (.pointer (some ⟨p, 0, none⟩)), .int .i64 sec, .int .u64 g, .int .i64 k2, .bool true] W fun r w' => r = .returned (.tuple #[.agg #[.int .i64 0, .bool false, .bool false, .bool false, .bool false, .int .i64 0], .bool false]) ∧ Grows W w' from hon)
    clear hon
    go_enter Tryd.func20, Tryd.ntmps20
    go_wp2_with fail
    obtain ⟨W1, hW1⟩ : ∃ W1, W1 = (w.alloc (Obj.cells zeroF 34)).alloc (Obj.cells zeroT 36) := ⟨_, rfl⟩
    obtain ⟨b7, hb7⟩ : ∃ b, b = w.heap.size + 1 := ⟨_, rfl⟩
    obtain ⟨b6, hb6⟩ : ∃ b, b = w.heap.size := ⟨_, rfl⟩
    have hr6 : Row W1 b6 zeroF 34 := by rw [hW1, hb6]; exact (Row.new _ _ _).grows ((Grows.refl _).alloc _)
    have hr7 : Row W1 b7 zeroT 36 := by rw [hW1]; exact Row.new_at _ _ _ (by simp [hb7])
    have hg1 : Grows w W1 := by rw [hW1]; exact ((Grows.refl _).alloc _).alloc _
    change Code.wp _ _ _ _ ((w.alloc (Obj.cells zeroF 34)).alloc (Obj.cells zeroT 36))
    rw [← hW1, ← hb7, ← hb6]
    have hwl := hr.lt
    have hne : wb ≠ b6 ∧ wb ≠ b7 ∧ b6 ≠ b7 := by omega
    have HB := Lib.hid (show w.heap.size ≤ b6 ∧ w.heap.size ≤ b7 by omega)
    have hrw := hr.grows hg1
    clear hW1 hb7 hb6 hr hwl
    have HS := Lib.hid (fun (w' : World) (hg' : Grows W1 w') => (⟨(hrw.grows hg').cell 0, (hrw.grows hg').cell 1⟩ : w'.cell? ⟨wb, 0, none⟩ = some (.iface 29 (.pointer (some ⟨p, 0, none⟩))) ∧ w'.cell? ⟨wb, 1, none⟩ = some (.int .i64 sec)))
    have HON2 := Lib.hid (fun W (hg' : Grows W1 W) => HON.out W (hg1.trans hg'))
    have HR6 := Lib.hid (fun (w' : World) (hg' : Grows W1 w') => hr6.grows hg')
    have HR7 := Lib.hid (fun (w' : World) (hg' : Grows W1 w') => hr7.grows hg')
    have HRW := Lib.hid (fun (w' : World) (hg' : Grows W1 w') => hrw.grows hg')
    have HG := Lib.hid hg1
    have hrwlt := hrw.lt
    have hb6lt := hr6.lt
    have hb7lt := hr7.lt
    clear hr6 hr7 hrw hg1 HON
    go_region_held3 (fun w' => w'.cell? ⟨wb, 0, none⟩ = some (.iface 29 (.pointer (some ⟨p, 0, none⟩))) ∧ w'.cell? ⟨wb, 1, none⟩ = some (.int .i64 sec)) (first
      | with_reducible exact HS.out _ (HG2.out.alloc _)
      | with_reducible exact HS.out _ (grows_fill6 HG2.out (Nat.le_refl _) _ _ _ _ _ _)
      | with_reducible exact HS.out _ (grows_fill6 (HG2.out.alloc _) HG2.out.size _ _ _ _ _ _)
      | with_reducible exact HS.out _ HG2.out
      | with_reducible exact HS.out _ (((Grows.refl _).alloc _).drew)
      | with_reducible exact HS.out _ ((Grows.refl _).drew)
      | with_reducible exact HS.out _ (Grows.refl _))
      (first
      | (go_at_call 8; refine (HON2.out _ (((Grows.refl _).alloc _).drew)).mono ?_; rintro _ w2 ⟨rfl, hg2⟩
         have hr8 : Row w2 W1.heap.size zeroF 34 := ((Row.new W1 zeroF 34).grows ((Grows.refl _).drew)).grows hg2
         have l8 := hr8.lt
         have f0 := hr8.frozen 0
         have f1 := hr8.frozen 1
         have f2 := hr8.frozen 2
         have f3 := hr8.frozen 3
         have f4 := hr8.frozen 4
         have f5 := hr8.frozen 5
         have k0 := (hr8.cell 0).trans (show zeroF[0]? = some (.int .i64 0) from rfl)
         have k1 := (hr8.cell 1).trans (show zeroF[1]? = some (.bool false) from rfl)
         have k2 := (hr8.cell 2).trans (show zeroF[2]? = some (.bool false) from rfl)
         have k3 := (hr8.cell 3).trans (show zeroF[3]? = some (.bool false) from rfl)
         have k4 := (hr8.cell 4).trans (show zeroF[4]? = some (.bool false) from rfl)
         have k5 := (hr8.cell 5).trans (show zeroF[5]? = some (.int .i64 0) from rfl)
         have HG2 : Hid (Grows W1 w2) := Lib.hid ((((Grows.refl _).alloc _).drew).trans hg2)
         have HR8 := Lib.hid hr8
         clear hg2 hr8)
      | (go_at_call 8; refine (HON2.out _ ((Grows.refl _).drew)).mono ?_; rintro _ w2 ⟨rfl, hg2⟩
         have f0 : ∀ c t, (w2.alloc (Obj.cells c t)).frozen? ⟨w2.heap.size, 0, none⟩ = false := fun c t => (Row.new w2 c t).frozen 0
         have f1 : ∀ c t, (w2.alloc (Obj.cells c t)).frozen? ⟨w2.heap.size, 1, none⟩ = false := fun c t => (Row.new w2 c t).frozen 1
         have f2 : ∀ c t, (w2.alloc (Obj.cells c t)).frozen? ⟨w2.heap.size, 2, none⟩ = false := fun c t => (Row.new w2 c t).frozen 2
         have f3 : ∀ c t, (w2.alloc (Obj.cells c t)).frozen? ⟨w2.heap.size, 3, none⟩ = false := fun c t => (Row.new w2 c t).frozen 3
         have f4 : ∀ c t, (w2.alloc (Obj.cells c t)).frozen? ⟨w2.heap.size, 4, none⟩ = false := fun c t => (Row.new w2 c t).frozen 4
         have f5 : ∀ c t, (w2.alloc (Obj.cells c t)).frozen? ⟨w2.heap.size, 5, none⟩ = false := fun c t => (Row.new w2 c t).frozen 5
         have HG2 : Hid (Grows W1 w2) := Lib.hid (((Grows.refl _).drew).trans hg2)
         clear hg2))
    all_goals
      go_wp2_with fail
      first
      | (obtain ⟨W3, hW3⟩ : ∃ W3, W3 = ((((((w2.setCell ⟨W1.heap.size, 0, none⟩ (.int .i64 0)).setCell ⟨W1.heap.size, 1, none⟩ (.bool false)).setCell ⟨W1.heap.size, 2, none⟩ (.bool false)).setCell ⟨W1.heap.size, 3, none⟩ (.bool false)).setCell ⟨W1.heap.size, 4, none⟩ (.bool false)).setCell ⟨W1.heap.size, 5, none⟩ (.int .i64 0)) := ⟨_, rfl⟩
         rw [← hW3]
         have HG3 := Lib.hid (show Grows W1 W3 by rw [hW3]; exact grows_fill6 HG2.out (Nat.le_refl _) _ _ _ _ _ _)
         clear hW3 f0 f1 f2 f3 f4 f5 k0 k1 k2 k3 k4 k5 l8)
      | (obtain ⟨W3, hW3⟩ : ∃ W3, W3 = w2.alloc (Obj.cells #[.int .i64 0, .bool false, .bool false, .bool false, .bool false, .int .i64 0] 34) := ⟨_, rfl⟩
         rw [← hW3]
         have HG3 := Lib.hid (show Grows W1 W3 by rw [hW3]; exact HG2.out.alloc _)
         clear hW3 f0 f1 f2 f3 f4 f5)
      have HR63 := Lib.hid (HR6.out _ HG3.out)
      have HR73 := Lib.hid (HR7.out _ HG3.out)
      have HRW3 := Lib.hid (HRW.out _ HG3.out)
      have HGW := Lib.hid (HG.out.trans HG3.out)
      have HRD := Lib.hid (HRW3.out.grows ((Grows.refl W3).drew))
      have HS2 := Lib.hid (fun (w' : World) (h : Row w' wb (wkL p sec A k lv) 61) => (⟨h.cell 2, h.cell 3⟩ : w'.cell? ⟨wb, 2, none⟩ = some (.int .u64 A) ∧ w'.cell? ⟨wb, 3, none⟩ = some (.int .i64 k)))
      have n6 : b6 ≠ wb := fun e => hne.1 e.symm
      have n7 : b7 ≠ wb := fun e => hne.2.1 e.symm
      have n67 : b6 ≠ b7 := hne.2.2
      have n76 : b7 ≠ b6 := n67.symm
      have n6' := n6.symm
      have n7' := n7.symm
      clear HS HON2 HR6 HR7 HRW HG HG2 HG3 hne
      have l4 := HR63.out.lt
      have f0 := HR63.out.frozen 0
      have f1 := HR63.out.frozen 1
      have f2 := HR63.out.frozen 2
      have f3 := HR63.out.frozen 3
      have f4 := HR63.out.frozen 4
      have f5 := HR63.out.frozen 5
      have k0 := (HR63.out.cell 0).trans (show zeroF[0]? = some (.int .i64 0) from rfl)
      have k1 := (HR63.out.cell 1).trans (show zeroF[1]? = some (.bool false) from rfl)
      have k2 := (HR63.out.cell 2).trans (show zeroF[2]? = some (.bool false) from rfl)
      have k3 := (HR63.out.cell 3).trans (show zeroF[3]? = some (.bool false) from rfl)
      have k4 := (HR63.out.cell 4).trans (show zeroF[4]? = some (.bool false) from rfl)
      have k5 := (HR63.out.cell 5).trans (show zeroF[5]? = some (.int .i64 0) from rfl)
      have l5 := HR73.out.lt
      have g0 := HR73.out.frozen 0
      have g1 := HR73.out.frozen 1
      have g2 := HR73.out.frozen 2
      have m0 := (HR73.out.cell 0).trans (show zeroT[0]? = some (.int .i64 0) from rfl)
      have m1 := (HR73.out.cell 1).trans (show zeroT[1]? = some (.int .u64 0) from rfl)
      have m2 := (HR73.out.cell 2).trans (show zeroT[2]? = some (.int .u64 0) from rfl)
      have d2 : W3.cell? ⟨wb, 2, none⟩ = some (.int .u64 A) := HRW3.out.cell 2
      have d3 : W3.cell? ⟨wb, 3, none⟩ = some (.int .i64 k) := HRW3.out.cell 3
      have lw := HRW3.out.lt
      go_region_with (first
        | (go_at_call 14; refine (fault_any _ _ _).mono ?_; rintro _ _ ⟨rfl, hw⟩; rw [hw]; clear hw))
      all_goals
        go_wp2_with fail
        have hF6 := ((row_over3 (row_fill6 HR63.out 0 0 false false false false) n76 (fltZ k true) A g).grows ((Grows.refl _).drew)).cell
        have hF7 := ((row_fill3 (row_over6 HR73.out n67 0 0 false false false false) (fltZ k true) A g).grows ((Grows.refl _).drew)).cell
        have hFW := (row_over3 (row_over6 HRW3.out n6 0 0 false false false false) n7 (fltZ k true) A g).grows ((Grows.refl _).drew)
        exact bodyPost_ret (v := .tuple #[.agg zeroF, .agg #[.int .i64 (fltZ k true), .int .u64 A, .int .u64 g]]) (by simp [results, Tryd.results20, go_sem, hF6, hF7, zeroF]) rfl ⟨rfl, by first | exact hFW | (rw [show (lv + if (none : Option Nat).isSome = true then 2 else 0) = lv by simp]; exact hFW), Chg.of_grows ((grows_fill3 (grows_fill6 HGW.out HB.out.1 _ _ _ _ _ _) HB.out.2 _ _ _).drew)⟩
  | some v =>
    have HON := Lib.hid (show ∀ W, Grows w W → Calls Tryd.prog 8 #[.iface 29 (.pointer (some ⟨p, 0, none⟩)), .int .i64 sec, .int .u64 g, .int .i64 k2, .bool true] W fun r w' => r = .returned (.tuple #[.agg #[.int .i64 (ef v), .bool (eb v 1), .bool (eb v 2), .bool (eb v 3), .bool (eb v 4), .int .i64 2], .bool true]) ∧ Grows W w' from hon)
    clear hon
    have HFN := Lib.hid (show fndA (some v) = #[.int .i64 (ef v), .bool (eb v 1), .bool (eb v 2), .bool (eb v 3), .bool (eb v 4), .int .i64 2] from rfl)
    generalize (ef v : Int) = n at *
    generalize eb v 1 = x1 at *
    generalize eb v 2 = x2 at *
    generalize eb v 3 = x3 at *
    generalize eb v 4 = x4 at *
    go_enter Tryd.func20, Tryd.ntmps20
    go_wp2_with fail
    obtain ⟨W1, hW1⟩ : ∃ W1, W1 = (w.alloc (Obj.cells zeroF 34)).alloc (Obj.cells zeroT 36) := ⟨_, rfl⟩
    obtain ⟨b7, hb7⟩ : ∃ b, b = w.heap.size + 1 := ⟨_, rfl⟩
    obtain ⟨b6, hb6⟩ : ∃ b, b = w.heap.size := ⟨_, rfl⟩
    have hr6 : Row W1 b6 zeroF 34 := by rw [hW1, hb6]; exact (Row.new _ _ _).grows ((Grows.refl _).alloc _)
    have hr7 : Row W1 b7 zeroT 36 := by rw [hW1]; exact Row.new_at _ _ _ (by simp [hb7])
    have hg1 : Grows w W1 := by rw [hW1]; exact ((Grows.refl _).alloc _).alloc _
    change Code.wp _ _ _ _ ((w.alloc (Obj.cells zeroF 34)).alloc (Obj.cells zeroT 36))
    rw [← hW1, ← hb7, ← hb6]
    have hwl := hr.lt
    have hne : wb ≠ b6 ∧ wb ≠ b7 ∧ b6 ≠ b7 := by omega
    have HB := Lib.hid (show w.heap.size ≤ b6 ∧ w.heap.size ≤ b7 by omega)
    have hrw := hr.grows hg1
    clear hW1 hb7 hb6 hr hwl
    have HS := Lib.hid (fun (w' : World) (hg' : Grows W1 w') => (⟨(hrw.grows hg').cell 0, (hrw.grows hg').cell 1⟩ : w'.cell? ⟨wb, 0, none⟩ = some (.iface 29 (.pointer (some ⟨p, 0, none⟩))) ∧ w'.cell? ⟨wb, 1, none⟩ = some (.int .i64 sec)))
    have HON2 := Lib.hid (fun W (hg' : Grows W1 W) => HON.out W (hg1.trans hg'))
    have HR6 := Lib.hid (fun (w' : World) (hg' : Grows W1 w') => hr6.grows hg')
    have HR7 := Lib.hid (fun (w' : World) (hg' : Grows W1 w') => hr7.grows hg')
    have HRW := Lib.hid (fun (w' : World) (hg' : Grows W1 w') => hrw.grows hg')
    have HG := Lib.hid hg1
    have hrwlt := hrw.lt
    have hb6lt := hr6.lt
    have hb7lt := hr7.lt
    clear hr6 hr7 hrw hg1 HON
    go_region_held3 (fun w' => w'.cell? ⟨wb, 0, none⟩ = some (.iface 29 (.pointer (some ⟨p, 0, none⟩))) ∧ w'.cell? ⟨wb, 1, none⟩ = some (.int .i64 sec)) (first
      | with_reducible exact HS.out _ (HG2.out.alloc _)
      | with_reducible exact HS.out _ (grows_fill6 HG2.out (Nat.le_refl _) _ _ _ _ _ _)
      | with_reducible exact HS.out _ (grows_fill6 (HG2.out.alloc _) HG2.out.size _ _ _ _ _ _)
      | with_reducible exact HS.out _ HG2.out
      | with_reducible exact HS.out _ (((Grows.refl _).alloc _).drew)
      | with_reducible exact HS.out _ ((Grows.refl _).drew)
      | with_reducible exact HS.out _ (Grows.refl _))
      (first
      | (go_at_call 8; refine (HON2.out _ (((Grows.refl _).alloc _).drew)).mono ?_; rintro _ w2 ⟨rfl, hg2⟩
         have hr8 : Row w2 W1.heap.size zeroF 34 := ((Row.new W1 zeroF 34).grows ((Grows.refl _).drew)).grows hg2
         have l8 := hr8.lt
         have f0 := hr8.frozen 0
         have f1 := hr8.frozen 1
         have f2 := hr8.frozen 2
         have f3 := hr8.frozen 3
         have f4 := hr8.frozen 4
         have f5 := hr8.frozen 5
         have k0 := (hr8.cell 0).trans (show zeroF[0]? = some (.int .i64 0) from rfl)
         have k1 := (hr8.cell 1).trans (show zeroF[1]? = some (.bool false) from rfl)
         have k2 := (hr8.cell 2).trans (show zeroF[2]? = some (.bool false) from rfl)
         have k3 := (hr8.cell 3).trans (show zeroF[3]? = some (.bool false) from rfl)
         have k4 := (hr8.cell 4).trans (show zeroF[4]? = some (.bool false) from rfl)
         have k5 := (hr8.cell 5).trans (show zeroF[5]? = some (.int .i64 0) from rfl)
         have HG2 : Hid (Grows W1 w2) := Lib.hid ((((Grows.refl _).alloc _).drew).trans hg2)
         have HR8 := Lib.hid hr8
         clear hg2 hr8)
      | (go_at_call 8; refine (HON2.out _ ((Grows.refl _).drew)).mono ?_; rintro _ w2 ⟨rfl, hg2⟩
         have f0 : ∀ c t, (w2.alloc (Obj.cells c t)).frozen? ⟨w2.heap.size, 0, none⟩ = false := fun c t => (Row.new w2 c t).frozen 0
         have f1 : ∀ c t, (w2.alloc (Obj.cells c t)).frozen? ⟨w2.heap.size, 1, none⟩ = false := fun c t => (Row.new w2 c t).frozen 1
         have f2 : ∀ c t, (w2.alloc (Obj.cells c t)).frozen? ⟨w2.heap.size, 2, none⟩ = false := fun c t => (Row.new w2 c t).frozen 2
         have f3 : ∀ c t, (w2.alloc (Obj.cells c t)).frozen? ⟨w2.heap.size, 3, none⟩ = false := fun c t => (Row.new w2 c t).frozen 3
         have f4 : ∀ c t, (w2.alloc (Obj.cells c t)).frozen? ⟨w2.heap.size, 4, none⟩ = false := fun c t => (Row.new w2 c t).frozen 4
         have f5 : ∀ c t, (w2.alloc (Obj.cells c t)).frozen? ⟨w2.heap.size, 5, none⟩ = false := fun c t => (Row.new w2 c t).frozen 5
         have HG2 : Hid (Grows W1 w2) := Lib.hid (((Grows.refl _).drew).trans hg2)
         clear hg2))
    all_goals
      go_wp2_with fail
      first
      | (obtain ⟨W3, hW3⟩ : ∃ W3, W3 = ((((((w2.setCell ⟨W1.heap.size, 0, none⟩ (.int .i64 n)).setCell ⟨W1.heap.size, 1, none⟩ (.bool x1)).setCell ⟨W1.heap.size, 2, none⟩ (.bool x2)).setCell ⟨W1.heap.size, 3, none⟩ (.bool x3)).setCell ⟨W1.heap.size, 4, none⟩ (.bool x4)).setCell ⟨W1.heap.size, 5, none⟩ (.int .i64 2)) := ⟨_, rfl⟩
         rw [← hW3]
         have HG3 := Lib.hid (show Grows W1 W3 by rw [hW3]; exact grows_fill6 HG2.out (Nat.le_refl _) _ _ _ _ _ _)
         obtain ⟨b8, hb8⟩ : ∃ b, b = W1.heap.size := ⟨_, rfl⟩
         have HR83 := Lib.hid (show Row W3 b8 #[.int .i64 n, .bool x1, .bool x2, .bool x3, .bool x4, .int .i64 2] 34 by rw [hW3, hb8]; exact row_fill6 HR8.out n 2 x1 x2 x3 x4)
         rw [← hb8]
         have hbl : W1.heap.size ≤ b8 := by omega
         clear hW3 hb8 HR8 f0 f1 f2 f3 f4 f5 k0 k1 k2 k3 k4 k5 l8)
      | (obtain ⟨W3, hW3⟩ : ∃ W3, W3 = w2.alloc (Obj.cells #[.int .i64 n, .bool x1, .bool x2, .bool x3, .bool x4, .int .i64 2] 34) := ⟨_, rfl⟩
         rw [← hW3]
         have HG3 := Lib.hid (show Grows W1 W3 by rw [hW3]; exact HG2.out.alloc _)
         obtain ⟨b8, hb8⟩ : ∃ b, b = w2.heap.size := ⟨_, rfl⟩
         have HR83 := Lib.hid (show Row W3 b8 #[.int .i64 n, .bool x1, .bool x2, .bool x3, .bool x4, .int .i64 2] 34 by rw [hW3]; exact Row.new_at _ _ _ hb8)
         rw [← hb8]
         have hbl : W1.heap.size ≤ b8 := by have := HG2.out.size; omega
         clear hW3 hb8 f0 f1 f2 f3 f4 f5)
      have HR63 := Lib.hid (HR6.out _ HG3.out)
      have HR73 := Lib.hid (HR7.out _ HG3.out)
      have HRW3 := Lib.hid (HRW.out _ HG3.out)
      have HGW := Lib.hid (HG.out.trans HG3.out)
      have n6 : b6 ≠ wb := fun e => hne.1 e.symm
      have n7 : b7 ≠ wb := fun e => hne.2.1 e.symm
      have n67 : b6 ≠ b7 := hne.2.2
      have n76 : b7 ≠ b6 := n67.symm
      have n6' := n6.symm
      have n7' := n7.symm
      have n8 : b8 ≠ wb := by have := (hrwlt : wb < W1.heap.size); omega
      have n8' := n8.symm
      have n86 : b8 ≠ b6 := by have := (hb6lt : b6 < W1.heap.size); omega
      have n87 : b8 ≠ b7 := by have := (hb7lt : b7 < W1.heap.size); omega
      have n86' := n86.symm
      have n87' := n87.symm
      clear HS HON2 HR6 HR7 HRW HG HG2 HG3 hne hbl
      have lw := HRW3.out.lt
      have d4 : W3.cell? ⟨wb, 4, none⟩ = some (.int .i64 lv) := HRW3.out.cell 4
      have fw := HRW3.out.frozen 4
      have l8 := HR83.out.lt
      have e5 : W3.cell? ⟨b8, 5, none⟩ = some (.int .i64 2) := HR83.out.cell 5
      have wl : IntKind.i64.wrap (lv + 2) = lv + 2 := by have := hne61.out; rw [IntKind.wrap_i64]; omega
      go_region
      all_goals
        obtain ⟨W4, hW4⟩ : ∃ W4, W4 = World.drew (W3.setCell ⟨wb, 4, none⟩ (.int .i64 (lv + 2))) := ⟨_, rfl⟩
        rw [← hW4]
        have HR64 := Lib.hid (show Row W4 b6 zeroF 34 by rw [hW4]; exact (row_setOther HR63.out n6' _).grows ((Grows.refl _).drew))
        have HR74 := Lib.hid (show Row W4 b7 zeroT 36 by rw [hW4]; exact (row_setOther HR73.out n7' _).grows ((Grows.refl _).drew))
        have HR84 := Lib.hid (show Row W4 b8 #[.int .i64 n, .bool x1, .bool x2, .bool x3, .bool x4, .int .i64 2] 34 by rw [hW4]; exact (row_setOther HR83.out n8' _).grows ((Grows.refl _).drew))
        have HRW4 := Lib.hid (show Row W4 wb (wkL p sec A k (lv + 2)) 61 by rw [hW4]; exact (HRW3.out.put 4 (.int .i64 (lv + 2))).grows ((Grows.refl _).drew))
        have HC4 := Lib.hid (show Chg [wb] w W4 by rw [hW4]; exact ((Chg.of_grows HGW.out).setCell (b := wb) (Or.inl (by simp)) 4 _).trans (Chg.of_grows ((Grows.refl _).drew)))
        clear hW4 HR63 HR73 HR83 HRW3 HGW d4 fw e5 lw l8
        have l4 := HR64.out.lt
        have f0 := HR64.out.frozen 0
        have f1 := HR64.out.frozen 1
        have f2 := HR64.out.frozen 2
        have f3 := HR64.out.frozen 3
        have f4 := HR64.out.frozen 4
        have f5 := HR64.out.frozen 5
        have k0 := (HR64.out.cell 0).trans (show zeroF[0]? = some (.int .i64 0) from rfl)
        have k1 := (HR64.out.cell 1).trans (show zeroF[1]? = some (.bool false) from rfl)
        have k2 := (HR64.out.cell 2).trans (show zeroF[2]? = some (.bool false) from rfl)
        have k3 := (HR64.out.cell 3).trans (show zeroF[3]? = some (.bool false) from rfl)
        have k4 := (HR64.out.cell 4).trans (show zeroF[4]? = some (.bool false) from rfl)
        have k5 := (HR64.out.cell 5).trans (show zeroF[5]? = some (.int .i64 0) from rfl)
        have l5 := HR74.out.lt
        have g0 := HR74.out.frozen 0
        have g1 := HR74.out.frozen 1
        have g2 := HR74.out.frozen 2
        have m0 := (HR74.out.cell 0).trans (show zeroT[0]? = some (.int .i64 0) from rfl)
        have m1 := (HR74.out.cell 1).trans (show zeroT[1]? = some (.int .u64 0) from rfl)
        have m2 := (HR74.out.cell 2).trans (show zeroT[2]? = some (.int .u64 0) from rfl)
        have y0 : W4.cell? ⟨b8, 0, none⟩ = some (.int .i64 n) := HR84.out.cell 0
        have y1 : W4.cell? ⟨b8, 1, none⟩ = some (.bool x1) := HR84.out.cell 1
        have y2 : W4.cell? ⟨b8, 2, none⟩ = some (.bool x2) := HR84.out.cell 2
        have y3 : W4.cell? ⟨b8, 3, none⟩ = some (.bool x3) := HR84.out.cell 3
        have y4 : W4.cell? ⟨b8, 4, none⟩ = some (.bool x4) := HR84.out.cell 4
        have y5 : W4.cell? ⟨b8, 5, none⟩ = some (.int .i64 2) := HR84.out.cell 5
        have l8 := HR84.out.lt
        go_wp2_with fail
        have hF6 := (row_over3 (row_fill6 HR64.out n 2 x1 x2 x3 x4) n76 0 0 0).cell
        have hF7 := (row_fill3 (row_over6 HR74.out n67 n 2 x1 x2 x3 x4) 0 0 0).cell
        have hFW := row_over3 (row_over6 HRW4.out n6 n 2 x1 x2 x3 x4) n7 0 0 0
        exact bodyPost_ret (v := .tuple #[.agg #[.int .i64 n, .bool x1, .bool x2, .bool x3, .bool x4, .int .i64 2], .agg zeroT]) (by simp [results, Tryd.results20, go_sem, hF6, hF7, zeroT]) rfl ⟨by rw [HFN.out]; rfl, hFW, (((((((((HC4.out.setCell (Or.inr HB.out.1) _ _).setCell (Or.inr HB.out.1) _ _).setCell (Or.inr HB.out.1) _ _).setCell (Or.inr HB.out.1) _ _).setCell (Or.inr HB.out.1) _ _).setCell (Or.inr HB.out.1) _ _).setCell (Or.inr HB.out.2) _ _).setCell (Or.inr HB.out.2) _ _).setCell (Or.inr HB.out.2) _ _)⟩
end Go.Proofs.YtnkmelhggnelmaaDoor
