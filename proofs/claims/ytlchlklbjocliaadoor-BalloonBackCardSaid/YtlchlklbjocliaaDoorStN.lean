/- Tables that no call made: what the functions of the package stage answer. -/
import Derived.Test.YtlchlklbjocliaaDoorMem
import Derived.Test.YtlchlklbjocliaaDoorFr
namespace Go.Proofs.YtlchlklbjocliaaDoor
open Go Go.RowKit
set_option linter.unusedSimpArgs false
set_option linter.unusedVariables false
set_option maxRecDepth 100000
def NoTb (w : World) (v : Option Addr) : Prop := v = none ∨ ∃ p, v = some ⟨p, 0, none⟩ ∧ p < w.heap.size ∧ w.cell? ⟨p, 5, none⟩ = some (.map none)
theorem NoTb.grows {w w' : World} {v : Option Addr} (h : NoTb w v) (hg : Grows w w') : NoTb w' v := by
  rcases h with h | ⟨p, h, h1, h2⟩
  · exact Or.inl h
  · exact Or.inr ⟨p, h, hg.lt h1, by rw [hg.cell h1]; exact h2⟩
theorem tnone_nob {w : World} {v : Option Addr} (h : NoTb w v) :
    Calls Tryd.prog 47 #[.pointer v] w fun r w' => r = .returned (.bool true) ∧ w' = w := by
  rcases h with rfl | ⟨p, rfl, h1, h2⟩
  · go_enter Tryd.func47, Tryd.ntmps47
    go_wp2_with fail
    go_ret
    exact ⟨rfl, rfl⟩
  · have hb := eqlNil
    go_enter Tryd.func47, Tryd.ntmps47
    go_wp2_with fail
    go_ret
    exact ⟨rfl, rfl⟩
theorem usable_nob {w : World} {v : Option Addr} (h : NoTb w v) :
    Calls Tryd.prog 46 #[.pointer v] w fun r w' => r = .returned (.int .i64 1) ∧ w' = w := by
  go_enter Tryd.func46, Tryd.ntmps46
  go_wp2_with fail
  refine (tnone_nob h).mono ?_
  rintro _ _ ⟨rfl, hw⟩
  rw [hw]
  clear hw
  go_wp2_with fail
  go_ret
  exact ⟨rfl, rfl⟩
theorem Root_nob {w : World} {v : Option Addr} (h : NoTb w v) :
    Calls Tryd.prog 15 #[.pointer v] w fun r w' => r = .returned (.int .i64 (-1)) ∧ w' = w := by
  go_enter Tryd.func15, Tryd.ntmps15
  go_wp2_with fail
  refine (tnone_nob h).mono ?_
  rintro _ _ ⟨rfl, hw⟩
  rw [hw]
  clear hw
  go_wp2_with fail
  go_ret
  exact ⟨rfl, rfl⟩
theorem Close_nob {w : World} {v : Option Addr} (h : NoTb w v) :
    Calls Tryd.prog 18 #[.pointer v] w fun r w' => r = .returned (.int .i64 1) ∧ w' = w := by
  go_enter Tryd.func18, Tryd.ntmps18
  go_wp2_with fail
  refine (usable_nob h).mono ?_
  rintro _ _ ⟨rfl, hw⟩
  rw [hw]
  clear hw
  go_wp2_with fail
  go_ret
  exact ⟨rfl, rfl⟩
theorem Pages_nob {w : World} {v : Option Addr} (h : NoTb w v) :
    Calls Tryd.prog 14 #[.pointer v] w fun r w' => r = .returned (.tuple #[.int .i64 0, .int .i64 0]) ∧ w' = w := by
  go_enter Tryd.func14, Tryd.ntmps14
  go_wp2_with fail
  refine (usable_nob h).mono ?_
  rintro _ _ ⟨rfl, hw⟩
  rw [hw]
  clear hw
  go_wp2_with fail
  go_ret2
  exact ⟨rfl, rfl⟩
theorem Map_nob {w : World} {v : Option Addr} (h : NoTb w v) (page frame : Int) (r0 r1 r2 : Bool) :
    Calls Tryd.prog 16 #[.pointer v, .int .i64 page, .int .i64 frame, .agg #[.bool r0, .bool r1, .bool r2]] w fun r w' => r = .returned (.int .i64 1) ∧ Grows w w' := by
  go_enter Tryd.func16, Tryd.ntmps16
  go_wp2_with fail
  have hu := usable_nob (h.grows ((Grows.refl w).alloc (Obj.cells #[.bool r0, .bool r1, .bool r2] 23)))
  refine (hu).mono ?_
  rintro _ _ ⟨rfl, hw⟩
  rw [hw]
  clear hw
  clear hu
  go_wp2_with fail
  go_ret
  exact ⟨rfl, (Grows.refl w).alloc _⟩
theorem mapped_nob {w : World} {v : Option Addr} (h : NoTb w v) (page : Int) :
    Calls Tryd.prog 44 #[.pointer v, .int .i64 page] w fun r w' => r = .returned (.tuple #[.agg #[.bool false, .bool false, .bool false, .bool false, .bool false, .bool false, .bool false, .int .i64 0], .int .i64 1]) ∧ Grows w w' := by
  go_enter Tryd.func44, Tryd.ntmps44
  go_wp2_with fail
  refine (usable_nob (h.grows ((Grows.refl w).alloc _))).mono ?_
  rintro _ _ ⟨rfl, hw⟩
  rw [hw]
  clear hw
  go_wp2_with fail
  exact bodyPost_ret (v := .tuple #[.agg #[.bool false, .bool false, .bool false, .bool false, .bool false, .bool false, .bool false, .int .i64 0], .int .i64 1]) (by simp [results, Tryd.results44, go_sem]) rfl ⟨rfl, by first | exact (Grows.refl _).alloc _⟩
theorem Unmap_nob {w : World} {v : Option Addr} (h : NoTb w v) (page : Int) :
    Calls Tryd.prog 12 #[.pointer v, .int .i64 page] w fun r w' => r = .returned (.tuple #[.int .i64 0, .int .i64 1]) ∧ Grows w w' := by
  go_enter Tryd.func12, Tryd.ntmps12
  go_wp2_with fail
  refine (mapped_nob h page).mono ?_
  rintro _ w1 ⟨rfl, hg1⟩
  go_wp2_with fail
  go_ret2
  exact ⟨rfl, by first | exact hg1 | exact hg1.alloc _⟩
theorem Look_nob {w : World} {v : Option Addr} (h : NoTb w v) (page : Int) :
    Calls Tryd.prog 13 #[.pointer v, .int .i64 page] w fun r w' => r = .returned (.tuple #[.int .i64 0, .agg #[.bool false, .bool false, .bool false], .bool false]) ∧ Grows w w' := by
  go_enter Tryd.func13, Tryd.ntmps13
  go_wp2_with fail
  refine (mapped_nob (h.grows ((Grows.refl w).alloc _)) page).mono ?_
  rintro _ w1 ⟨rfl, hg1⟩
  have hr := (Row.new w #[.bool false, .bool false, .bool false] 23).grows hg1
  obtain ⟨b0, hb0⟩ : ∃ b, b = w.heap.size := ⟨_, rfl⟩
  rw [← hb0] at hr ⊢
  have HG1 := Lib.hid (((Grows.refl w).alloc (Obj.cells #[.bool false, .bool false, .bool false] 23)).trans hg1)
  have hr2 := fun (c : Array Value) (t : TypeId) => hr.grows ((Grows.refl w1).alloc (Obj.cells c t))
  have f0 : ∀ c t, (w1.alloc (Obj.cells c t)).frozen? ⟨b0, 0, none⟩ = false := fun c t => (hr2 c t).frozen 0
  have f1 : ∀ c t, (w1.alloc (Obj.cells c t)).frozen? ⟨b0, 1, none⟩ = false := fun c t => (hr2 c t).frozen 1
  have f2 : ∀ c t, (w1.alloc (Obj.cells c t)).frozen? ⟨b0, 2, none⟩ = false := fun c t => (hr2 c t).frozen 2
  have c0 : ∀ c t, (w1.alloc (Obj.cells c t)).cell? ⟨b0, 0, none⟩ = some (.bool false) := fun c t => (hr2 c t).cell 0
  have c1 : ∀ c t, (w1.alloc (Obj.cells c t)).cell? ⟨b0, 1, none⟩ = some (.bool false) := fun c t => (hr2 c t).cell 1
  have c2 : ∀ c t, (w1.alloc (Obj.cells c t)).cell? ⟨b0, 2, none⟩ = some (.bool false) := fun c t => (hr2 c t).cell 2
  have HB0 := Lib.hid hb0
  clear hr hr2 hg1 hb0
  go_wp2_with fail
  exact bodyPost_ret (v := .tuple #[.int .i64 0, .agg #[.bool false, .bool false, .bool false], .bool false]) (by simp [results, Tryd.results13, go_sem, c0, c1, c2]) rfl ⟨rfl, (((((Chg.refl [b0] _).setCell (Or.inl (by simp)) _ _).setCell (Or.inl (by simp)) _ _).setCell (Or.inl (by simp)) _ _)).to_grows (HG1.out.alloc _) (by have := HB0.out; simp; omega)⟩
theorem Protect_nob {w : World} {v : Option Addr} (h : NoTb w v) (page : Int) (r0 r1 r2 : Bool) :
    Calls Tryd.prog 17 #[.pointer v, .int .i64 page, .agg #[.bool r0, .bool r1, .bool r2]] w fun r w' => r = .returned (.int .i64 1) ∧ Grows w w' := by
  go_enter Tryd.func17, Tryd.ntmps17
  go_wp2_with fail
  refine (usable_nob (h.grows ((Grows.refl w).alloc _))).mono ?_
  rintro _ _ ⟨rfl, hw⟩
  rw [hw]
  clear hw
  go_wp2_with fail
  refine (mapped_nob (h.grows ((Grows.refl w).alloc _)) page).mono ?_
  rintro _ w1 ⟨rfl, hg1⟩
  go_wp2_with fail
  go_ret
  exact ⟨rfl, (((Grows.refl w).alloc _).trans hg1).alloc _⟩

end Go.Proofs.YtlchlklbjocliaaDoor
