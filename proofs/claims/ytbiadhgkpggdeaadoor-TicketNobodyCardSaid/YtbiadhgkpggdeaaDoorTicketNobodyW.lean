/- The walk of TicketNobody. -/
import Derived.Test.YtbiadhgkpggdeaaDoorTick
namespace Go.Proofs.YtbiadhgkpggdeaaDoor
open Go Go.RowKit
set_option linter.unusedSimpArgs false
set_option linter.unusedVariables false
set_option maxRecDepth 100000 in
set_option maxHeartbeats 4000000 in
theorem ticketNobody_walk (i : Int) (_ : (Lit.int .i64 i).wf = true) (W : World) (hT : Widths W) (hF : Follows W) :
    Calls Tryd.prog 5 #[.int .i64 i] W fun r w' => r = .returned (.bool true) ∧ Grows W w' := by
  clear hT hF
  go_enter Tryd.func5, Tryd.ntmps5
  go_wp2_with fail
  obtain ⟨be, hbe⟩ : ∃ be, be = W.heap.size := ⟨_, rfl⟩
  obtain ⟨bl, hbl⟩ : ∃ bl, bl = W.heap.size + 1 := ⟨_, rfl⟩
  have r1 : Row (W.alloc (Obj.cells #[.pointer none, .int .u64 0, .slice none 0 0] 40)) be #[.pointer none, .int .u64 0, .slice none 0 0] 40 := Row.new_at _ _ _ hbe
  have r2 : Row ((W.alloc (Obj.cells #[.pointer none, .int .u64 0, .slice none 0 0] 40)).alloc (Obj.cells #[.pointer none, .pointer (some ⟨be, 0, none⟩)] 27)) bl #[.pointer none, .pointer (some ⟨be, 0, none⟩)] 27 := Row.new_at _ _ _ (by simp [hbl])
  have g3 : Grows W ((W.alloc (Obj.cells #[.pointer none, .int .u64 0, .slice none 0 0] 40)).alloc (Obj.cells #[.pointer none, .pointer (some ⟨be, 0, none⟩)] 27)) := ((Grows.refl _).alloc _).alloc _
  have r1' := r1.grows ((Grows.refl _).alloc (Obj.cells #[.pointer none, .pointer (some ⟨be, 0, none⟩)] 27))
  rw [← hbl, ← hbe]
  clear hbe hbl r1
  generalize ((W.alloc (Obj.cells #[.pointer none, .int .u64 0, .slice none 0 0] 40)).alloc (Obj.cells #[.pointer none, .pointer (some ⟨be, 0, none⟩)] 27)) = W3 at *
  have HG3 := Lib.hid g3
  have hn0 : NoLock W3 none := Or.inl rfl
  have hn1 : NoLock W3 (some ⟨be, 0, none⟩) := Or.inr ⟨be, rfl, r1'⟩
  have hl2 := r2.lt
  have hcl : ∀ w', Grows W3 w' → w'.cell? ⟨bl, 0, none⟩ = some (.pointer none) ∧ w'.cell? ⟨bl, 1, none⟩ = some (.pointer (some ⟨be, 0, none⟩)) ∧ bl < w'.heap.size := fun w' hg => ⟨(r2.grows hg).cell 0, (r2.grows hg).cell 1, hg.lt hl2⟩
  clear g3 r1' r2 hl2
  go_loopw [17] (fun j wr => ∃ k : Nat, k ≤ 2 ∧ j = .int .i64 k ∧ Grows W3 wr) (fun j _ => (2 - intOf j).toNat)
  case atStart => exact ⟨0, by omega, rfl, Grows.refl _⟩
  case round =>
    obtain ⟨k, hk, rfl, hgr⟩ := hrel
    have : k = 0 ∨ k = 1 ∨ k = 2 := by omega
    obtain ⟨b0, b1, b2⟩ := hcl _ hgr
    rcases this with rfl | rfl | rfl
    · have hof := fun w' (hg : Grows wr w') => of_nob ((hn0.grows hgr).grows hg) i
      go_wp2_with fail
      refine (step_bad (by decide) (hof _ (Grows.refl _))).mono ?_
      rintro _ _ ⟨rfl, hw⟩
      rw [hw]; clear hw
      go_wp2_with fail
      refine (State_bad (by decide) (hof _ (Grows.refl _))).mono ?_
      rintro _ _ ⟨rfl, hw⟩
      rw [hw]; clear hw
      go_wp2_with fail
      refine (Take_bad (by decide) (hof _ (Grows.refl _))).mono ?_
      rintro _ _ ⟨rfl, hw⟩
      rw [hw]; clear hw
      go_wp2_with fail
      refine (Give_bad (by decide) (hof _ (Grows.refl _))).mono ?_
      rintro _ _ ⟨rfl, hw⟩
      rw [hw]; clear hw
      go_wp2_with fail
      exact ⟨⟨1, by omega, by simp, hgr⟩, by simp [intOf]⟩
    · have hof := fun w' (hg : Grows wr w') => of_nob ((hn1.grows hgr).grows hg) i
      go_wp2_with fail
      refine (step_bad (by decide) (hof _ (Grows.refl _))).mono ?_
      rintro _ _ ⟨rfl, hw⟩
      rw [hw]; clear hw
      go_wp2_with fail
      refine (State_bad (by decide) (hof _ (Grows.refl _))).mono ?_
      rintro _ _ ⟨rfl, hw⟩
      rw [hw]; clear hw
      go_wp2_with fail
      refine (Take_bad (by decide) (hof _ (Grows.refl _))).mono ?_
      rintro _ _ ⟨rfl, hw⟩
      rw [hw]; clear hw
      go_wp2_with fail
      refine (Give_bad (by decide) (hof _ (Grows.refl _))).mono ?_
      rintro _ _ ⟨rfl, hw⟩
      rw [hw]; clear hw
      go_wp2_with fail
      exact ⟨⟨2, by omega, by simp, hgr⟩, by simp [intOf]⟩
    · go_wp2_with fail
      refine (tnew_nil (Or.inl rfl) _ _).mono ?_
      rintro _ _ ⟨rfl, hw⟩
      rw [hw]; clear hw
      have hnm : NoMem (wr.alloc (Obj.cells #[.slice none 0 0] 46)) (some ⟨wr.heap.size, 0, none⟩) := Or.inr ⟨_, rfl, Row.new _ _ _⟩
      go_wp2_with fail
      refine (tnew_nil hnm _ _).mono ?_
      rintro _ _ ⟨rfl, hw⟩
      rw [hw]; clear hw
      go_wp2_with fail
      go_ret
      exact ⟨by simp, (HG3.out.trans hgr).alloc _⟩
end Go.Proofs.YtbiadhgkpggdeaaDoor
