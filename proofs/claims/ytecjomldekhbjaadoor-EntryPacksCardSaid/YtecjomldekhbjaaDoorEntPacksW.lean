/- The walk of EntryPacks. -/
import Derived.Test.YtecjomldekhbjaaDoorEntR
namespace Go.Proofs.YtecjomldekhbjaaDoor
open Go Go.RowKit
set_option linter.unusedSimpArgs false
set_option linter.unusedVariables false
set_option maxHeartbeats 2000000 in
theorem packs_law (a b c d e f g : Bool) (n : Int) (k : Int) (u : Bool) (w : World) (hT : Places w) :
    Calls Tryd.prog 4 #[.agg #[.bool a, .bool b, .bool c, .bool d, .bool e, .bool f, .bool g, .int .i64 n], .int .i64 k, .bool u] w
     fun r w' => r = .returned (.bool true) ∧ Grows w w' := by
  go_enter Tryd.func4, Tryd.ntmps4
  go_wp2_with fail
  refine (pack_any _ _ _ _ _ _ _ _ _ (hT.grows (((Grows.refl _).alloc _).alloc _))).mono ?_
  rintro _ w1 ⟨rfl, g1, rfl⟩
  go_wp2_with fail
  refine (rpack_any _ _ _ _ _ _ _ _ _).mono ?_
  rintro _ w2 ⟨rfl, g2, rfl⟩
  go_wp2_with fail
  refine wp_region_grow (by kernel_rfl) (by kernel_rfl) ?_
  repeat (go_big_quiet_step ((first | (go_at_call 14; exact Calls.quiet_grow (leaf_any _ _ _ _ _ _ _ _ _)) | (go_at_call 15; exact Calls.quiet_grow (rleaf_any _ _ _ _ _ _ _ _ _)) | (go_at_call 16; exact Calls.quiet_grow (allows_any _ _ _ _ _ _ _ _ _ _ _)) | (go_at_call 17; exact Calls.quiet_grow (rallows_any _ _ _ _ _ _ _ _ _ _ _)) | (go_at_call 18; exact Calls.quiet_grow (names05_any _)))))
  refine wpQuiet_nil ?_
  intro _ hw'
  obtain ⟨g3, rfl⟩ := hw'
  go_wp2_with fail
  go_ret
  exact ⟨by simp, ((((Grows.refl _).alloc _).alloc _).grow _).grow _⟩
theorem entryPacks_walk (a b c d e f g : Bool) (n : Int) (_ : (Lit.int .i64 n).wf = true) (k : Int) (_ : (Lit.int .i64 k).wf = true) (u : Bool) (w : World) (hT : Places w) :
    Calls Tryd.prog 4 #[.agg #[.bool a, .bool b, .bool c, .bool d, .bool e, .bool f, .bool g, .int .i64 n], .int .i64 k, .bool u] w
     fun r w' => r = .returned (.bool true) ∧ Grows w w' := packs_law a b c d e f g n k u w hT
end Go.Proofs.YtecjomldekhbjaaDoor
