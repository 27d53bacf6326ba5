/- The walk of EntryAllows: what an entry allows is what its flags say, of its kind of asker alone; an entry of a table allows nothing. For every entry and either asker. No condition. -/
import Derived.Test.YtecjomldekhbjaaProg
import Derived.Test.YtecjomldekhbjaaBase
import Derived.Test.YtecjomldekhbjaaEnt
namespace Go.Proofs.Ytecjomldekhbjaa
open Go Go.RowKit
set_option linter.unusedSimpArgs false
set_option linter.unusedVariables false
set_option maxHeartbeats 2000000 in
theorem entryAllows_walk (a b c d e f g : Bool) (n : Int) (_ : (Lit.int .i64 n).wf = true) (u : Bool) (w : World) :
    Calls Try.prog 3 #[.agg #[.bool a, .bool b, .bool c, .bool d, .bool e, .bool f, .bool g, .int .i64 n], .bool u] w
     fun r w' => r = .returned (.bool true) ∧ Grows w w' := by
  go_enter Try.func3, Try.ntmps3
  go_wp2_with fail
  obtain ⟨W, hW⟩ : ∃ W, W = (w.alloc (Obj.cells #[.bool a, .bool b, .bool c, .bool d, .bool e, .bool f, .bool g, .int .i64 n] 23)).alloc (Obj.cells #[.bool true, .bool false, .bool false, .bool false, .bool false, .bool false, .bool false, .int .i64 n] 23) := ⟨_, rfl⟩
  rw [← hW]
  have hg : Grows w W := by rw [hW]; exact ((Grows.refl _).alloc _).alloc _
  have c0 : ∀ i, W.cell? ⟨w.heap.size, i, none⟩ = #[Value.bool a, .bool b, .bool c, .bool d, .bool e, .bool f, .bool g, .int .i64 n][i]? := by
    intro i; rw [hW]; simp [go_sem]
  have c1 : ∀ i, W.cell? ⟨w.heap.size + 1, i, none⟩ = #[Value.bool true, .bool false, .bool false, .bool false, .bool false, .bool false, .bool false, .int .i64 n][i]? := by
    intro i; rw [hW]; simp [go_sem]
  have s0 : w.heap.size < W.heap.size := by rw [hW]; simp; omega
  have s1 : w.heap.size + 1 < W.heap.size := by rw [hW]; simp
  clear hW
  go_loopw [6] (fun i wr => (∃ k : Nat, k ≤ 3 ∧ i = .int .i64 k) ∧ ∃ g, wr = W.grow g) (fun i _ => 3 - (intOf i).toNat)
  case atStart => exact ⟨⟨0, by omega, rfl⟩, .none, (World.grow_none _).symm⟩
  case round =>
    obtain ⟨⟨k, hk, rfl⟩, g0, rfl⟩ := hrel
    by_cases h3 : k < 3
    · go_wp2_with fail
      refine (allows_any _ _ _ _ _ _ _ _ _ _ _).mono ?_
      rintro _ w1 ⟨rfl, g1, rfl⟩
      have e1 : allowsB true false false false false k u = false := by simp [allowsB]
      rw [e1]
      go_wp2_with fail
      refine (allows_any _ _ _ _ _ _ _ _ _ _ _).mono ?_
      rintro _ w1 ⟨rfl, g2, rfl⟩
      have e2 : allowsB false false false false false k u = false := by simp [allowsB]
      rw [e2]
      have kk : k = 0 ∨ k = 1 ∨ k = 2 := by omega
      clear e1 e2 hk h3
      rcases kk with rfl | rfl | rfl
      · cases a <;> cases b <;> cases d
        all_goals
          go_wp2_with fail
          refine wp_region_grow (by kernel_rfl) (by kernel_rfl) ?_
          repeat (go_big_quiet_step ((go_at_call 7; refine Calls.quiet_grow (allows_any _ _ _ _ _ _ _ _ _ _ _))))
          refine wpQuiet_nil ?_
          intro _ hw'
          obtain ⟨g3, rfl⟩ := hw'
          go_wp2_with fail
        all_goals first
          | exact ⟨⟨⟨1, by omega, rfl⟩, _, rfl⟩, by simp [intOf]⟩
          | (exfalso; rename_i h1; revert h1; simp [allowsB, ok3]; done)
      · cases a <;> cases b <;> cases d
        all_goals
          go_wp2_with fail
          refine wp_region_grow (by kernel_rfl) (by kernel_rfl) ?_
          repeat (go_big_quiet_step ((go_at_call 7; refine Calls.quiet_grow (allows_any _ _ _ _ _ _ _ _ _ _ _))))
          refine wpQuiet_nil ?_
          intro _ hw'
          obtain ⟨g3, rfl⟩ := hw'
          go_wp2_with fail
        all_goals first
          | exact ⟨⟨⟨2, by omega, rfl⟩, _, rfl⟩, by simp [intOf]⟩
          | (exfalso; rename_i h1; revert h1; simp [allowsB, ok3]; done)
      · cases a <;> cases b <;> cases c <;> cases d
        all_goals
          go_wp2_with fail
          refine wp_region_grow (by kernel_rfl) (by kernel_rfl) ?_
          repeat (go_big_quiet_step ((go_at_call 7; refine Calls.quiet_grow (allows_any _ _ _ _ _ _ _ _ _ _ _))))
          refine wpQuiet_nil ?_
          intro _ hw'
          obtain ⟨g3, rfl⟩ := hw'
          go_wp2_with fail
        all_goals first
          | exact ⟨⟨⟨3, by omega, rfl⟩, _, rfl⟩, by simp [intOf]⟩
          | (exfalso; rename_i h1; revert h1; simp [allowsB, ok3]; done)
    · go_wp2_with fail
      obtain ⟨V, hV⟩ : ∃ V, V = (W.grow g0).alloc (Obj.cells #[.bool true, .bool true, .bool true, .bool true, .bool u, .bool false, .bool false, .int .i64 0] 23) := ⟨_, rfl⟩
      rw [← hV]
      have hg2 : Grows w V := by rw [hV]; exact (hg.grow _).alloc _
      have v1 : ∀ i, V.cell? ⟨w.heap.size + 1, i, none⟩ = #[Value.bool true, .bool false, .bool false, .bool false, .bool false, .bool false, .bool false, .int .i64 n][i]? := by
        intro i; rw [hV, World.cell?_alloc_past _ _ _ (by simp; omega), World.cell?_grow _ _ s1, c1]
      have v2 : ∀ i, V.cell? ⟨W.heap.size + g0.size, i, none⟩ = #[Value.bool true, .bool true, .bool true, .bool true, .bool u, .bool false, .bool false, .int .i64 0][i]? := by
        intro i; rw [hV, World.cell?_alloc_at _ _ _ _ (by simp)]
      have z1 : w.heap.size + 1 < V.heap.size := by rw [hV]; simp; omega
      have z2 : W.heap.size + g0.size < V.heap.size := by rw [hV]; simp
      clear hV c0 c1 s0 s1 hg
      refine (allows_any _ _ _ _ _ _ _ _ _ _ _).mono ?_
      rintro _ w1 ⟨rfl, g1, rfl⟩
      have e1 : allowsB true true true true u 2 u = true := by simp [allowsB, ok3]
      rw [e1]
      go_wp2_with fail
      refine (allows_any _ _ _ _ _ _ _ _ _ _ _).mono ?_
      rintro _ w1 ⟨rfl, g2, rfl⟩
      have e2 : allowsB true true true true u 2 (!u) = false := by simp [allowsB, ok3]
      rw [e2]
      go_wp2_with fail
      refine (leaf_any _ _ _ _ _ _ _ _ _).mono ?_
      rintro _ w1 ⟨rfl, g3, rfl⟩
      go_wp2_with fail
      go_ret
      exact ⟨rfl, hg2.grow _⟩
end Go.Proofs.Ytecjomldekhbjaa
