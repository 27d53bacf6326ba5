/- The walk of CsrNobody. -/
import Derived.Test.YtoehigcojgeioaaCsrN
namespace Go.Proofs.Ytoehigcojgeioaa
open Go Go.RowKit
set_option linter.unusedSimpArgs false
set_option linter.unusedVariables false
set_option maxRecDepth 100000 in
set_option maxHeartbeats 4000000 in
theorem csrNobody_walk (k : Int) (_ : (Lit.int .i64 k).wf = true) (n : Int) (_ : (Lit.int .i64 n).wf = true) (m : Int) (_ : (Lit.int .i64 m).wf = true) (v : Int) (_ : (Lit.int .u64 v).wf = true) (c : Int) (_ : (Lit.int .i64 c).wf = true) (t : Int) (_ : (Lit.int .u64 t).wf = true) (u : Int) (_ : (Lit.int .u64 u).wf = true) (on : Bool) (w : World) :
    Calls Try.prog 6 #[.agg #[.int .i64 k, .int .i64 n, .int .i64 m, .int .u64 v, .int .i64 c, .int .u64 t, .int .u64 u, .bool on]] w fun r w' => r = .returned (.bool true) ∧ Grows w w' := by
  go_enter Try.func6, Try.ntmps6
  go_wp2_with fail
  obtain ⟨b0, hb0⟩ : ∃ b, b = w.heap.size := ⟨_, rfl⟩
  obtain ⟨b1, hb1⟩ : ∃ b, b = w.heap.size + 1 := ⟨_, rfl⟩
  obtain ⟨b2, hb2⟩ : ∃ b, b = w.heap.size + 1 + 1 := ⟨_, rfl⟩
  rw [← hb2, ← hb1, ← hb0]
  obtain ⟨W, hW⟩ : ∃ W, W = ((w.alloc (Obj.cells #[.int .i64 k, .int .i64 n, .int .i64 m, .int .u64 v, .int .i64 c, .int .u64 t, .int .u64 u, .bool on] 42)).alloc (Obj.cells #[.bool false, .int .u64 0, .int .u64 0, .int .u64 0, .int .u64 0, .int .u64 0, .int .u64 0, .int .u64 0, .int .u64 0, .int .u64 0, .int .u64 0, .int .u64 0, .int .u64 0] 48)).alloc (Obj.cells #[.pointer none, .pointer (some ⟨b1, 0, none⟩)] 22) := ⟨_, rfl⟩
  rw [← hW]
  have hA : Row W b0 #[.int .i64 k, .int .i64 n, .int .i64 m, .int .u64 v, .int .i64 c, .int .u64 t, .int .u64 u, .bool on] 42 := by
    rw [hW]; exact ((Row.new_at _ _ _ hb0).grows ((Grows.refl _).alloc _)).grows ((Grows.refl _).alloc _)
  have hF : Row W b1 #[.bool false, .int .u64 0, .int .u64 0, .int .u64 0, .int .u64 0, .int .u64 0, .int .u64 0, .int .u64 0, .int .u64 0, .int .u64 0, .int .u64 0, .int .u64 0, .int .u64 0] 48 := by
    rw [hW]; exact (Row.new_at _ _ _ (by simp [hb1])).grows ((Grows.refl _).alloc _)
  have hS : Row W b2 #[.pointer none, .pointer (some ⟨b1, 0, none⟩)] 22 := by
    rw [hW]; exact Row.new_at _ _ _ (by simp [hb2])
  have hg : Grows w W := by rw [hW]; exact (((Grows.refl _).alloc _).alloc _).alloc _
  clear hW hb0 hb1 hb2
  have HG := Lib.hid hg
  clear hg
  go_loopw [17] (fun i wr => (∃ q : Nat, q ≤ 2 ∧ i = .int .i64 q) ∧ Grows W wr) (fun i _ => (2 - intOf i).toNat)
  case atStart => exact ⟨⟨0, by omega, rfl⟩, Grows.refl _⟩
  case round =>
    obtain ⟨⟨q, hq, rfl⟩, hgr⟩ := hrel
    have hA' := hA.grows hgr
    have hF' := hF.grows hgr
    have hS' := hS.grows hgr
    clear hA hF hS
    have lA := hA'.lt
    have lS := hS'.lt
    by_cases hlt : q < 2
    · obtain ⟨F, hF2, hN⟩ : ∃ F, wr.cell? ⟨b2, q, none⟩ = some F ∧ Nobody wr F := by
        have : q = 0 ∨ q = 1 := by omega
        rcases this with rfl | rfl
        · exact ⟨_, hS'.cell 0, Or.inl rfl⟩
        · exact ⟨_, hS'.cell 1, Or.inr ⟨b1, rfl, hF'.cell 0, hF'.lt⟩⟩
      have c1 : wr.cell? ⟨b0, 1, none⟩ = some (.int .i64 n) := hA'.cell 1
      have c2 : wr.cell? ⟨b0, 2, none⟩ = some (.int .i64 m) := hA'.cell 2
      have c3 : wr.cell? ⟨b0, 3, none⟩ = some (.int .u64 v) := hA'.cell 3
      have c4 : wr.cell? ⟨b0, 4, none⟩ = some (.int .i64 c) := hA'.cell 4
      have c5 : wr.cell? ⟨b0, 5, none⟩ = some (.int .u64 t) := hA'.cell 5
      have c6 : wr.cell? ⟨b0, 6, none⟩ = some (.int .u64 u) := hA'.cell 6
      have c7 : wr.cell? ⟨b0, 7, none⟩ = some (.bool on) := hA'.cell 7
      clear hA' hF' hS'
      go_wp2_with fail
      refine (read_nob hN _ _).mono ?_
      rintro _ w1 ⟨rfl, g1, rfl⟩
      go_wp2_with fail
      refine (due_nob (Nobody_grows hN (Grows.of _ _)) _).mono ?_
      rintro _ w1 ⟨rfl, g2, rfl⟩
      go_wp2_with fail
      refine (enter_nob (Nobody_grows hN (Grows.of _ _)) _ _ _ _ _).mono ?_
      rintro _ w1 ⟨rfl, g3, rfl⟩
      go_wp2_with fail
      refine (leave_nob (Nobody_grows hN (Grows.of _ _))).mono ?_
      rintro _ w1 ⟨rfl, g4, rfl⟩
      go_wp2_with fail
      refine (write_nob (Nobody_grows hN (Grows.of _ _)) _ _ _).mono ?_
      rintro _ w1 ⟨rfl, h0, rfl⟩
      go_wp2_with fail
      refine (get_nob (Nobody_grows hN (Grows.of _ _)) _).mono ?_
      rintro _ w1 ⟨rfl, h1, rfl⟩
      go_wp2_with fail
      refine (set_nob (Nobody_grows hN (Grows.of _ _)) _ _).mono ?_
      rintro _ w1 ⟨rfl, h2, rfl⟩
      go_wp2_with fail
      refine (line_nob (Nobody_grows hN (Grows.of _ _)) _ _).mono ?_
      rintro _ w1 ⟨rfl, h3, rfl⟩
      go_wp2_with fail
      refine (wakes_nob (Nobody_grows hN (Grows.of _ _))).mono ?_
      rintro _ w1 ⟨rfl, h4, rfl⟩
      go_wp2_with fail
      refine (root_nob (Nobody_grows hN (Grows.of _ _))).mono ?_
      rintro _ w1 ⟨rfl, h5, rfl⟩
      go_wp2_with fail
      refine (clone_nob (Nobody_grows hN (Grows.of _ _))).mono ?_
      rintro _ w1 ⟨rfl, h6, rfl⟩
      go_wp2_with fail
      exact ⟨⟨⟨q + 1, by omega, by simp⟩, hgr.grow _⟩, by simp [intOf]; omega⟩
    · have : q = 2 := by omega
      subst this
      go_wp2_with fail
      go_ret
      exact ⟨rfl, HG.out.trans hgr⟩
end Go.Proofs.Ytoehigcojgeioaa
