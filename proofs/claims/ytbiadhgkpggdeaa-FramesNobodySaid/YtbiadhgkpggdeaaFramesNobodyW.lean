/- The walk of FramesNobody. -/
import Derived.Test.YtbiadhgkpggdeaaFr
namespace Go.Proofs.Ytbiadhgkpggdeaa
open Go Go.RowKit
set_option linter.unusedSimpArgs false
set_option linter.unusedVariables false
/-- The cells of a struct that no call made. -/
def zeroFr : Array Value := #[.int .i64 0, .int .i64 0, .map none, .map none, .int .i64 0, .int .i64 0, .int .i64 0, .int .i64 0, .int .i64 0, .int .i64 0, .int .i64 0, .int .i64 0, .int .i64 0, .int .i64 0, .int .i64 0, .int .i64 0, .int .i64 0, .int .i64 0, .int .i64 0, .int .i64 0, .int .i64 0, .int .i64 0, .int .i64 0, .int .i64 0, .int .i64 0, .int .i64 0, .int .i64 0, .int .i64 0, .int .i64 0, .int .i64 0, .int .i64 0, .int .i64 0, .int .i64 0, .int .i64 0, .int .i64 0, .int .i64 0, .int .i64 0, .int .i64 0, .int .i64 0]
theorem zeroFr_def : (#[.int .i64 0, .int .i64 0, .map none, .map none, .int .i64 0, .int .i64 0, .int .i64 0, .int .i64 0, .int .i64 0, .int .i64 0, .int .i64 0, .int .i64 0, .int .i64 0, .int .i64 0, .int .i64 0, .int .i64 0, .int .i64 0, .int .i64 0, .int .i64 0, .int .i64 0, .int .i64 0, .int .i64 0, .int .i64 0, .int .i64 0, .int .i64 0, .int .i64 0, .int .i64 0, .int .i64 0, .int .i64 0, .int .i64 0, .int .i64 0, .int .i64 0, .int .i64 0, .int .i64 0, .int .i64 0, .int .i64 0, .int .i64 0, .int .i64 0, .int .i64 0] : Array Value) = zeroFr := rfl
set_option maxRecDepth 100000 in
set_option maxHeartbeats 4000000 in
theorem framesNobody_walk (kd : Int) (_ : (Lit.int .i64 kd).wf = true) (fr : Int) (_ : (Lit.int .i64 fr).wf = true) (who : Int) (_ : (Lit.int .i64 who).wf = true) (to_ : Int) (_ : (Lit.int .i64 to_).wf = true) (W : World) :
    Calls Try.prog 4 #[.agg #[.int .i64 kd, .int .i64 fr, .int .i64 who, .int .i64 to_]] W fun r w' => r = .returned (.bool true) ∧ Grows W w' := by
  go_enter Try.func4, Try.ntmps4
  go_wp2_with fail
  rw [zeroFr_def]
  obtain ⟨W3, hW3⟩ : ∃ W3, W3 = (((W.alloc (Obj.cells #[.int .i64 kd, .int .i64 fr, .int .i64 who, .int .i64 to_] 29)).alloc (Obj.cells zeroFr 41)).alloc (Obj.cells #[.pointer none, .pointer (some ⟨W.heap.size + 1, 0, none⟩)] 23)) := ⟨_, rfl⟩
  obtain ⟨ba, hba⟩ : ∃ ba, ba = W.heap.size := ⟨_, rfl⟩
  obtain ⟨bf, hbf⟩ : ∃ bf, bf = W.heap.size + 1 := ⟨_, rfl⟩
  obtain ⟨bs, hbs⟩ : ∃ bs, bs = W.heap.size + 1 + 1 := ⟨_, rfl⟩
  have g3 : Grows W W3 := by rw [hW3]; exact (((Grows.refl _).alloc _).alloc _).alloc _
  have r1 : Row W3 ba #[.int .i64 kd, .int .i64 fr, .int .i64 who, .int .i64 to_] 29 := by
    rw [hW3, hba]; exact ((Row.new W _ _).grows ((Grows.refl _).alloc _)).grows ((Grows.refl _).alloc _)
  have r2 : Row W3 bf zeroFr 41 := by
    rw [hW3]
    have h : Row ((W.alloc (Obj.cells #[.int .i64 kd, .int .i64 fr, .int .i64 who, .int .i64 to_] 29)).alloc (Obj.cells zeroFr 41)) bf zeroFr 41 := Row.new_at _ _ _ (by simp [hbf])
    exact h.grows ((Grows.refl _).alloc _)
  have r3 : Row W3 bs #[.pointer none, .pointer (some ⟨bf, 0, none⟩)] 23 := by
    rw [hW3, hbf]; exact Row.new_at _ _ _ (by simp [hbs])
  rw [← hW3, ← hbs, ← hbf, ← hba]
  have hn0 : NoFr W3 none := Or.inl rfl
  have hn1 : NoFr W3 (some ⟨bf, 0, none⟩) := Or.inr ⟨bf, rfl, r2.lt, r2.cell 2⟩
  have hcl : ∀ w', Grows W3 w' → (w'.cell? ⟨ba, 1, none⟩ = some (.int .i64 fr) ∧ w'.cell? ⟨ba, 2, none⟩ = some (.int .i64 who) ∧ w'.cell? ⟨ba, 3, none⟩ = some (.int .i64 to_)) ∧ w'.cell? ⟨bs, 0, none⟩ = some (.pointer none) ∧ w'.cell? ⟨bs, 1, none⟩ = some (.pointer (some ⟨bf, 0, none⟩)) :=
    fun w' hg => ⟨⟨(r1.grows hg).cell 1, (r1.grows hg).cell 2, (r1.grows hg).cell 3⟩, (r3.grows hg).cell 0, (r3.grows hg).cell 1⟩
  have HG3 := Lib.hid g3
  have HCL := Lib.hid hcl
  clear hW3 hba hbf hbs g3 r1 r2 r3 hcl
  go_loopw [18] (fun j wr => ∃ k : Nat, k ≤ 2 ∧ j = .int .i64 k ∧ Grows W3 wr) (fun j _ => (2 - intOf j).toNat)
  case atStart => exact ⟨0, by omega, rfl, Grows.refl _⟩
  case round =>
    obtain ⟨k, hk, rfl, hgr⟩ := hrel
    have : k = 0 ∨ k = 1 ∨ k = 2 := by omega
    rcases this with rfl | rfl | rfl
    · have hno := hn0.grows hgr
      clear hn0 hn1
      obtain ⟨⟨a0, a1, a2⟩, a3, a4⟩ := HCL.out _ hgr
      go_wp2_with fail
      refine (Alloc_nob hno who).mono ?_
      rintro _ v1 ⟨rfl, hv1⟩
      have HV1 := Lib.hid hv1
      have hg2 := hgr.trans hv1
      clear hgr hv1
      have hgr := hg2
      clear hg2
      have hno2 := hno.grows HV1.out
      clear hno HV1
      have hno := hno2
      clear hno2
      obtain ⟨⟨a0, a1, a2⟩, a3, a4⟩ := HCL.out _ hgr
      go_wp2_with fail
      refine (Free_nob hno fr who).mono ?_
      rintro _ v1 ⟨rfl, hv1⟩
      have HV1 := Lib.hid hv1
      have hg2 := hgr.trans hv1
      clear hgr hv1
      have hgr := hg2
      clear hg2
      have hno2 := hno.grows HV1.out
      clear hno HV1
      have hno := hno2
      clear hno2
      obtain ⟨⟨a0, a1, a2⟩, a3, a4⟩ := HCL.out _ hgr
      go_wp2_with fail
      refine (Owner_nob hno fr).mono ?_
      rintro _ v1 ⟨rfl, hv1⟩
      have HV1 := Lib.hid hv1
      have hg2 := hgr.trans hv1
      clear hgr hv1
      have hgr := hg2
      clear hg2
      have hno2 := hno.grows HV1.out
      clear hno HV1
      have hno := hno2
      clear hno2
      obtain ⟨⟨a0, a1, a2⟩, a3, a4⟩ := HCL.out _ hgr
      go_wp2_with fail
      refine (Count_nob hno who).mono ?_
      rintro _ v1 ⟨rfl, hv1⟩
      have HV1 := Lib.hid hv1
      have hg2 := hgr.trans hv1
      clear hgr hv1
      have hgr := hg2
      clear hg2
      have hno2 := hno.grows HV1.out
      clear hno HV1
      have hno := hno2
      clear hno2
      obtain ⟨⟨a0, a1, a2⟩, a3, a4⟩ := HCL.out _ hgr
      go_wp2_with fail
      refine (Hold_nob hno fr who).mono ?_
      rintro _ v1 ⟨rfl, hv1⟩
      have HV1 := Lib.hid hv1
      have hg2 := hgr.trans hv1
      clear hgr hv1
      have hgr := hg2
      clear hg2
      have hno2 := hno.grows HV1.out
      clear hno HV1
      have hno := hno2
      clear hno2
      obtain ⟨⟨a0, a1, a2⟩, a3, a4⟩ := HCL.out _ hgr
      go_wp2_with fail
      refine (Move_nob hno fr who to_).mono ?_
      rintro _ v1 ⟨rfl, hv1⟩
      have HV1 := Lib.hid hv1
      have hg2 := hgr.trans hv1
      clear hgr hv1
      have hgr := hg2
      clear hg2
      have hno2 := hno.grows HV1.out
      clear hno HV1
      have hno := hno2
      clear hno2
      obtain ⟨⟨a0, a1, a2⟩, a3, a4⟩ := HCL.out _ hgr
      go_wp2_with fail
      refine (Quota_nob hno who 1).mono ?_
      rintro _ v1 ⟨rfl, hv1⟩
      have HV1 := Lib.hid hv1
      have hg2 := hgr.trans hv1
      clear hgr hv1
      have hgr := hg2
      clear hg2
      have hno2 := hno.grows HV1.out
      clear hno HV1
      have hno := hno2
      clear hno2
      obtain ⟨⟨a0, a1, a2⟩, a3, a4⟩ := HCL.out _ hgr
      go_wp2_with fail
      refine (List_nob hno who).mono ?_
      rintro _ v1 ⟨rfl, hv1⟩
      have HV1 := Lib.hid hv1
      have hg2 := hgr.trans hv1
      clear hgr hv1
      have hgr := hg2
      clear hg2
      have hno2 := hno.grows HV1.out
      clear hno HV1
      have hno := hno2
      clear hno2
      obtain ⟨⟨a0, a1, a2⟩, a3, a4⟩ := HCL.out _ hgr
      go_wp2_with fail
      refine (Sum_nob hno).mono ?_
      rintro _ v1 ⟨rfl, hv1⟩
      have HV1 := Lib.hid hv1
      have hg2 := hgr.trans hv1
      clear hgr hv1
      have hgr := hg2
      clear hg2
      have hno2 := hno.grows HV1.out
      clear hno HV1
      have hno := hno2
      clear hno2
      obtain ⟨⟨a0, a1, a2⟩, a3, a4⟩ := HCL.out _ hgr
      go_wp2_with fail
      exact ⟨⟨1, by omega, by simp, hgr⟩, by simp [intOf]⟩
    · have hno := hn1.grows hgr
      clear hn0 hn1
      obtain ⟨⟨a0, a1, a2⟩, a3, a4⟩ := HCL.out _ hgr
      go_wp2_with fail
      refine (Alloc_nob hno who).mono ?_
      rintro _ v1 ⟨rfl, hv1⟩
      have HV1 := Lib.hid hv1
      have hg2 := hgr.trans hv1
      clear hgr hv1
      have hgr := hg2
      clear hg2
      have hno2 := hno.grows HV1.out
      clear hno HV1
      have hno := hno2
      clear hno2
      obtain ⟨⟨a0, a1, a2⟩, a3, a4⟩ := HCL.out _ hgr
      go_wp2_with fail
      refine (Free_nob hno fr who).mono ?_
      rintro _ v1 ⟨rfl, hv1⟩
      have HV1 := Lib.hid hv1
      have hg2 := hgr.trans hv1
      clear hgr hv1
      have hgr := hg2
      clear hg2
      have hno2 := hno.grows HV1.out
      clear hno HV1
      have hno := hno2
      clear hno2
      obtain ⟨⟨a0, a1, a2⟩, a3, a4⟩ := HCL.out _ hgr
      go_wp2_with fail
      refine (Owner_nob hno fr).mono ?_
      rintro _ v1 ⟨rfl, hv1⟩
      have HV1 := Lib.hid hv1
      have hg2 := hgr.trans hv1
      clear hgr hv1
      have hgr := hg2
      clear hg2
      have hno2 := hno.grows HV1.out
      clear hno HV1
      have hno := hno2
      clear hno2
      obtain ⟨⟨a0, a1, a2⟩, a3, a4⟩ := HCL.out _ hgr
      go_wp2_with fail
      refine (Count_nob hno who).mono ?_
      rintro _ v1 ⟨rfl, hv1⟩
      have HV1 := Lib.hid hv1
      have hg2 := hgr.trans hv1
      clear hgr hv1
      have hgr := hg2
      clear hg2
      have hno2 := hno.grows HV1.out
      clear hno HV1
      have hno := hno2
      clear hno2
      obtain ⟨⟨a0, a1, a2⟩, a3, a4⟩ := HCL.out _ hgr
      go_wp2_with fail
      refine (Hold_nob hno fr who).mono ?_
      rintro _ v1 ⟨rfl, hv1⟩
      have HV1 := Lib.hid hv1
      have hg2 := hgr.trans hv1
      clear hgr hv1
      have hgr := hg2
      clear hg2
      have hno2 := hno.grows HV1.out
      clear hno HV1
      have hno := hno2
      clear hno2
      obtain ⟨⟨a0, a1, a2⟩, a3, a4⟩ := HCL.out _ hgr
      go_wp2_with fail
      refine (Move_nob hno fr who to_).mono ?_
      rintro _ v1 ⟨rfl, hv1⟩
      have HV1 := Lib.hid hv1
      have hg2 := hgr.trans hv1
      clear hgr hv1
      have hgr := hg2
      clear hg2
      have hno2 := hno.grows HV1.out
      clear hno HV1
      have hno := hno2
      clear hno2
      obtain ⟨⟨a0, a1, a2⟩, a3, a4⟩ := HCL.out _ hgr
      go_wp2_with fail
      refine (Quota_nob hno who 1).mono ?_
      rintro _ v1 ⟨rfl, hv1⟩
      have HV1 := Lib.hid hv1
      have hg2 := hgr.trans hv1
      clear hgr hv1
      have hgr := hg2
      clear hg2
      have hno2 := hno.grows HV1.out
      clear hno HV1
      have hno := hno2
      clear hno2
      obtain ⟨⟨a0, a1, a2⟩, a3, a4⟩ := HCL.out _ hgr
      go_wp2_with fail
      refine (List_nob hno who).mono ?_
      rintro _ v1 ⟨rfl, hv1⟩
      have HV1 := Lib.hid hv1
      have hg2 := hgr.trans hv1
      clear hgr hv1
      have hgr := hg2
      clear hg2
      have hno2 := hno.grows HV1.out
      clear hno HV1
      have hno := hno2
      clear hno2
      obtain ⟨⟨a0, a1, a2⟩, a3, a4⟩ := HCL.out _ hgr
      go_wp2_with fail
      refine (Sum_nob hno).mono ?_
      rintro _ v1 ⟨rfl, hv1⟩
      have HV1 := Lib.hid hv1
      have hg2 := hgr.trans hv1
      clear hgr hv1
      have hgr := hg2
      clear hg2
      have hno2 := hno.grows HV1.out
      clear hno HV1
      have hno := hno2
      clear hno2
      obtain ⟨⟨a0, a1, a2⟩, a3, a4⟩ := HCL.out _ hgr
      go_wp2_with fail
      exact ⟨⟨2, by omega, by simp, hgr⟩, by simp [intOf]⟩
    · go_wp2_with fail
      go_ret
      exact ⟨by simp, HG3.out.trans hgr⟩
end Go.Proofs.Ytbiadhgkpggdeaa
