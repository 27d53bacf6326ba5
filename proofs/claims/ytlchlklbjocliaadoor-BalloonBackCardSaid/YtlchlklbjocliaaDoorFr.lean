/- What the functions of the package frames do with what no call made. -/
import Derived.Test.YtlchlklbjocliaaDoorProg
import Derived.Test.YtlchlklbjocliaaDoorBase
import Derived.Test.YtlchlklbjocliaaDoorNum
import Derived.Lib.Hide
import Derived.OwnWalk
namespace Go.Proofs.YtlchlklbjocliaaDoor
open Go Go.RowKit
set_option linter.unusedSimpArgs false
set_option linter.unusedVariables false
set_option maxRecDepth 100000
theorem eqlNil (w : World) : (binOp .eql 29 (.map none) (.map none)).run Tryd.prog w = .ok (.bool true) w := by kernel_rfl
theorem eqlSome (b : Nat) (w : World) : (binOp .eql 29 (.map (some b)) (.map none)).run Tryd.prog w = .ok (.bool false) w := by kernel_rfl
/-- nil, or a struct with no map. -/
def NoFr (w : World) (v : Option Addr) : Prop := v = none ∨ ∃ p, v = some ⟨p, 0, none⟩ ∧ p < w.heap.size ∧ w.cell? ⟨p, 2, none⟩ = some (.map none)
theorem NoFr.grows {w w' : World} {v : Option Addr} (h : NoFr w v) (hg : Grows w w') : NoFr w' v := by
  rcases h with h | ⟨p, h, h1, h2⟩
  · exact Or.inl h
  · exact Or.inr ⟨p, h, hg.lt h1, by rw [hg.cell h1]; exact h2⟩
theorem fnone_nob {w : World} {v : Option Addr} (h : NoFr w v) :
    Calls Tryd.prog 62 #[.pointer v] w fun r w' => r = .returned (.bool true) ∧ w' = w := by
  rcases h with rfl | ⟨p, rfl, h1, h2⟩
  · go_enter Tryd.func62, Tryd.ntmps62
    go_wp2_with fail
    go_ret
    exact ⟨rfl, rfl⟩
  · have hb := eqlNil
    go_enter Tryd.func62, Tryd.ntmps62
    go_wp2_with fail
    go_ret
    exact ⟨rfl, rfl⟩
theorem isOwner_any (i : Int) (w : World) : Calls Tryd.prog 63 #[.int .i64 i] w fun r w' => r = .returned (.bool (decide (0 ≤ i ∧ i < 17))) ∧ w' = w := by
  by_cases h0 : 0 ≤ i
  · by_cases h1 : i < 17
    · rw [show decide (0 ≤ i ∧ i < 17) = true from decide_eq_true ⟨h0, h1⟩]
      go_enter Tryd.func63, Tryd.ntmps63
      go_wp2_with fail
      go_ret
      exact ⟨rfl, rfl⟩
    · rw [show decide (0 ≤ i ∧ i < 17) = false from decide_eq_false (fun h => h1 h.2)]
      go_enter Tryd.func63, Tryd.ntmps63
      go_wp2_with fail
      go_ret
      exact ⟨rfl, rfl⟩
  · rw [show decide (0 ≤ i ∧ i < 17) = false from decide_eq_false (fun h => h0 h.1)]
    go_enter Tryd.func63, Tryd.ntmps63
    go_wp2_with fail
    go_ret
    exact ⟨rfl, rfl⟩
theorem owned_nob {w : World} {v : Option Addr} (h : NoFr w v) (a : Option Addr) (n c : Nat) :
    Calls Tryd.prog 68 #[.pointer v, .slice a n c] w fun r w' => r = .returned (.int .i64 1) ∧ w' = w := by
  go_enter Tryd.func68, Tryd.ntmps68
  go_wp2_with fail
  refine (fnone_nob h).mono ?_
  rintro _ _ ⟨rfl, hw⟩
  rw [hw]
  clear hw
  go_wp2_with fail
  go_ret
  exact ⟨rfl, rfl⟩
theorem wrong_nob {w : World} {v : Option Addr} (h : NoFr w v) (f : Int) (a : Option Addr) (n c : Nat) :
    Calls Tryd.prog 77 #[.pointer v, .int .i64 f, .slice a n c] w fun r w' => r = .returned (.int .i64 1) ∧ w' = w := by
  go_enter Tryd.func77, Tryd.ntmps77
  go_wp2_with fail
  refine (owned_nob h a n c).mono ?_
  rintro _ _ ⟨rfl, hw⟩
  rw [hw]
  clear hw
  go_wp2_with fail
  go_ret
  exact ⟨rfl, rfl⟩
theorem Alloc_nob {w : World} {v : Option Addr} (h : NoFr w v) (i : Int) :
    Calls Tryd.prog 29 #[.pointer v, .int .i64 i] w fun r w' => r = .returned (.tuple #[.int .i64 0, .int .i64 1]) ∧ Grows w w' := by
  go_enter Tryd.func29, Tryd.ntmps29
  go_wp2_with fail
  refine (owned_nob (h.grows ((Grows.refl _).alloc _)) _ _ _).mono ?_
  rintro _ _ ⟨rfl, hw⟩
  rw [hw]
  clear hw
  go_wp2_with fail
  go_ret2
  exact ⟨rfl, (Grows.refl _).alloc _⟩
theorem Quota_nob {w : World} {v : Option Addr} (h : NoFr w v) (i j : Int) :
    Calls Tryd.prog 43 #[.pointer v, .int .i64 i, .int .i64 j] w fun r w' => r = .returned (.int .i64 1) ∧ Grows w w' := by
  go_enter Tryd.func43, Tryd.ntmps43
  go_wp2_with fail
  refine (owned_nob (h.grows ((Grows.refl _).alloc _)) _ _ _).mono ?_
  rintro _ _ ⟨rfl, hw⟩
  rw [hw]
  clear hw
  go_wp2_with fail
  go_ret
  exact ⟨rfl, (Grows.refl _).alloc _⟩
theorem Hold_nob {w : World} {v : Option Addr} (h : NoFr w v) (i j : Int) :
    Calls Tryd.prog 41 #[.pointer v, .int .i64 i, .int .i64 j] w fun r w' => r = .returned (.int .i64 1) ∧ Grows w w' := by
  go_enter Tryd.func41, Tryd.ntmps41
  go_wp2_with fail
  refine (wrong_nob (h.grows ((Grows.refl _).alloc _)) i _ _ _).mono ?_
  rintro _ _ ⟨rfl, hw⟩
  rw [hw]
  clear hw
  go_wp2_with fail
  go_ret
  exact ⟨rfl, (Grows.refl _).alloc _⟩
theorem Free_nob {w : World} {v : Option Addr} (h : NoFr w v) (i j : Int) :
    Calls Tryd.prog 42 #[.pointer v, .int .i64 i, .int .i64 j] w fun r w' => r = .returned (.tuple #[.bool false, .int .i64 1]) ∧ Grows w w' := by
  go_enter Tryd.func42, Tryd.ntmps42
  go_wp2_with fail
  refine (wrong_nob (h.grows ((Grows.refl _).alloc _)) i _ _ _).mono ?_
  rintro _ _ ⟨rfl, hw⟩
  rw [hw]
  clear hw
  go_wp2_with fail
  go_ret2
  exact ⟨rfl, (Grows.refl _).alloc _⟩
theorem Owner_nob {w : World} {v : Option Addr} (h : NoFr w v) (i : Int) :
    Calls Tryd.prog 31 #[.pointer v, .int .i64 i] w fun r w' => r = .returned (.tuple #[.int .i64 0, .int .i64 0, .bool false]) ∧ Grows w w' := by
  go_enter Tryd.func31, Tryd.ntmps31
  go_wp2_with fail
  refine (fnone_nob h).mono ?_
  rintro _ _ ⟨rfl, hw⟩
  rw [hw]
  clear hw
  go_wp2_with fail
  refine bodyPost_ret (results_tmp3 rfl _ _ _) rfl ?_
  exact ⟨rfl, Grows.refl _⟩
theorem Count_nob {w : World} {v : Option Addr} (h : NoFr w v) (i : Int) :
    Calls Tryd.prog 24 #[.pointer v, .int .i64 i] w fun r w' => r = .returned (.tuple #[.int .i64 0, .int .i64 0]) ∧ Grows w w' := by
  go_enter Tryd.func24, Tryd.ntmps24
  go_wp2_with fail
  refine (fnone_nob h).mono ?_
  rintro _ _ ⟨rfl, hw⟩
  rw [hw]
  clear hw
  go_wp2_with fail
  go_ret2
  exact ⟨rfl, Grows.refl _⟩
theorem Sum_nob {w : World} {v : Option Addr} (h : NoFr w v) :
    Calls Tryd.prog 25 #[.pointer v] w fun r w' => r = .returned (.int .i64 0) ∧ Grows w w' := by
  go_enter Tryd.func25, Tryd.ntmps25
  go_wp2_with fail
  refine (fnone_nob h).mono ?_
  rintro _ _ ⟨rfl, hw⟩
  rw [hw]
  clear hw
  go_wp2_with fail
  go_ret
  exact ⟨rfl, Grows.refl _⟩
end Go.Proofs.YtlchlklbjocliaaDoor
