/- The walk of StageNobody. -/
import Derived.Test.YtlchlklbjocliaaDoorStN
import Derived.Test.YtlchlklbjocliaaDoorFrN
import Derived.Test.YtlchlklbjocliaaDoorEntP

namespace Go.Proofs.YtlchlklbjocliaaDoor
open Go Go.RowKit
set_option linter.unusedSimpArgs false
set_option linter.unusedVariables false
set_option maxRecDepth 100000
theorem snew_mem {w : World} {v : Option Addr} (h : NoMem w v) (f : Option Addr) (g : Int) :
    Calls Tryd.prog 21 #[.pointer v, .pointer f, .int .i64 g] w fun r w' => r = .returned (.tuple #[.pointer none, .int .i64 1]) ∧ Grows w w' := by
  go_enter Tryd.func21, Tryd.ntmps21
  go_wp2_with fail
  refine (frames_nob h).mono ?_
  rintro _ _ ⟨rfl, hw⟩
  rw [hw]
  clear hw
  go_wp2_with fail
  go_ret2
  exact ⟨rfl, Grows.refl _⟩
theorem snew_fr {w : World} {p q n : Nat} {B : Nat → Nat} (h : Mem w p q n B) (hn : n / 256 ≠ 0) {v : Option Addr} (hf : NoFr w v) (g : Int) :
    Calls Tryd.prog 21 #[.pointer (some ⟨p, 0, none⟩), .pointer v, .int .i64 g] w fun r w' => r = .returned (.tuple #[.pointer none, .int .i64 1]) ∧ Grows w w' := by
  have hd : (((n / 256 : Nat) : Int) == 0) = false := by simp; omega
  go_enter Tryd.func21, Tryd.ntmps21
  go_wp2_with fail
  refine (frames_any h).mono ?_
  rintro _ _ ⟨rfl, hw⟩
  rw [hw]
  clear hw
  generalize ((n / 256 : Nat) : Int) = N at *
  go_wp2_with fail
  refine (Quota_nob hf _ _).mono ?_
  rintro _ w1 ⟨rfl, hg1⟩
  go_wp2_with fail
  go_ret2
  exact ⟨rfl, hg1⟩
/-- The cells of tables that no call made. -/
def zeroTb : Array Value := #[.pointer none, .pointer none, .int .i64 0, .int .i64 0, .bool false, .map none, .int .i64 0, .int .i64 0, .int .i64 0, .int .i64 0, .int .i64 0, .int .i64 0, .int .i64 0, .int .i64 0, .int .i64 0, .int .i64 0, .int .i64 0, .int .i64 0, .int .i64 0, .int .i64 0, .int .i64 0, .int .i64 0, .int .i64 0, .int .i64 0, .int .i64 0, .int .i64 0, .int .i64 0, .int .i64 0, .int .i64 0, .int .i64 0, .int .i64 0, .int .i64 0, .int .i64 0, .int .i64 0, .int .i64 0, .int .i64 0, .int .i64 0, .int .i64 0]
theorem zeroTb_def : (#[.pointer none, .pointer none, .int .i64 0, .int .i64 0, .bool false, .map none, .int .i64 0, .int .i64 0, .int .i64 0, .int .i64 0, .int .i64 0, .int .i64 0, .int .i64 0, .int .i64 0, .int .i64 0, .int .i64 0, .int .i64 0, .int .i64 0, .int .i64 0, .int .i64 0, .int .i64 0, .int .i64 0, .int .i64 0, .int .i64 0, .int .i64 0, .int .i64 0, .int .i64 0, .int .i64 0, .int .i64 0, .int .i64 0, .int .i64 0, .int .i64 0, .int .i64 0, .int .i64 0, .int .i64 0, .int .i64 0, .int .i64 0, .int .i64 0] : Array Value) = zeroTb := rfl
def zeroF : Array Value := #[.int .i64 0, .int .i64 0, .map none, .map none, .int .i64 0, .int .i64 0, .int .i64 0, .int .i64 0, .int .i64 0, .int .i64 0, .int .i64 0, .int .i64 0, .int .i64 0, .int .i64 0, .int .i64 0, .int .i64 0, .int .i64 0, .int .i64 0, .int .i64 0, .int .i64 0, .int .i64 0, .int .i64 0, .int .i64 0, .int .i64 0, .int .i64 0, .int .i64 0, .int .i64 0, .int .i64 0, .int .i64 0, .int .i64 0, .int .i64 0, .int .i64 0, .int .i64 0, .int .i64 0, .int .i64 0, .int .i64 0, .int .i64 0, .int .i64 0, .int .i64 0]
theorem zeroF_def : (#[.int .i64 0, .int .i64 0, .map none, .map none, .int .i64 0, .int .i64 0, .int .i64 0, .int .i64 0, .int .i64 0, .int .i64 0, .int .i64 0, .int .i64 0, .int .i64 0, .int .i64 0, .int .i64 0, .int .i64 0, .int .i64 0, .int .i64 0, .int .i64 0, .int .i64 0, .int .i64 0, .int .i64 0, .int .i64 0, .int .i64 0, .int .i64 0, .int .i64 0, .int .i64 0, .int .i64 0, .int .i64 0, .int .i64 0, .int .i64 0, .int .i64 0, .int .i64 0, .int .i64 0, .int .i64 0, .int .i64 0, .int .i64 0, .int .i64 0, .int .i64 0] : Array Value) = zeroF := rfl
abbrev actC (ki wh pa fr : Int) (r0 r1 r2 : Bool) : Array Value := #[.int .i64 ki, .int .i64 wh, .int .i64 pa, .int .i64 fr, .bool r0, .bool r1, .bool r2]
set_option maxHeartbeats 4000000 in
theorem stageNobody_law (ki wh pa fr : Int) (r0 r1 r2 : Bool) (W : World) :
    Calls Tryd.prog 3 #[.agg (actC ki wh pa fr r0 r1 r2)] W fun r w' => r = .returned (.bool true) ∧ Grows W w' := by
  go_enter Tryd.func3, Tryd.ntmps3
  go_wp2_with fail
  rw [zeroTb_def]
  obtain ⟨W3, hW3⟩ : ∃ W3, W3 = (((W.alloc (Obj.cells (actC ki wh pa fr r0 r1 r2) 25)).alloc (Obj.cells zeroTb 32)).alloc (Obj.cells #[.pointer none, .pointer (some ⟨W.heap.size + 1, 0, none⟩)] 26)) := ⟨_, rfl⟩
  obtain ⟨ba, hba⟩ : ∃ ba, ba = W.heap.size := ⟨_, rfl⟩
  obtain ⟨bf, hbf⟩ : ∃ bf, bf = W.heap.size + 1 := ⟨_, rfl⟩
  obtain ⟨bs, hbs⟩ : ∃ bs, bs = W.heap.size + 1 + 1 := ⟨_, rfl⟩
  have g3 : Grows W W3 := by rw [hW3]; exact (((Grows.refl _).alloc _).alloc _).alloc _
  have r1' : Row W3 ba (actC ki wh pa fr r0 r1 r2) 25 := by
    rw [hW3, hba]; exact ((Row.new W _ _).grows ((Grows.refl _).alloc _)).grows ((Grows.refl _).alloc _)
  have r2' : Row W3 bf zeroTb 32 := by
    rw [hW3]
    have h : Row ((W.alloc (Obj.cells (actC ki wh pa fr r0 r1 r2) 25)).alloc (Obj.cells zeroTb 32)) bf zeroTb 32 := Row.new_at _ _ _ (by simp [hbf])
    exact h.grows ((Grows.refl _).alloc _)
  have r3' : Row W3 bs #[.pointer none, .pointer (some ⟨bf, 0, none⟩)] 26 := by
    rw [hW3, hbf]; exact Row.new_at _ _ _ (by simp [hbs])
  rw [← hW3, ← hbs, ← hba]
  have hn0 : NoTb W3 none := Or.inl rfl
  have hn1 : NoTb W3 (some ⟨bf, 0, none⟩) := Or.inr ⟨bf, rfl, r2'.lt, r2'.cell 5⟩
  have hcl : ∀ w', Grows W3 w' → (w'.cell? ⟨ba, 2, none⟩ = some (.int .i64 pa) ∧ w'.cell? ⟨ba, 3, none⟩ = some (.int .i64 fr) ∧ w'.cell? ⟨ba, 4, none⟩ = some (.bool r0) ∧ w'.cell? ⟨ba, 5, none⟩ = some (.bool r1) ∧ w'.cell? ⟨ba, 6, none⟩ = some (.bool r2)) ∧ w'.cell? ⟨bs, 0, none⟩ = some (.pointer none) ∧ w'.cell? ⟨bs, 1, none⟩ = some (.pointer (some ⟨bf, 0, none⟩)) :=
    fun w' hg => ⟨⟨(r1'.grows hg).cell 2, (r1'.grows hg).cell 3, (r1'.grows hg).cell 4, (r1'.grows hg).cell 5, (r1'.grows hg).cell 6⟩, (r3'.grows hg).cell 0, (r3'.grows hg).cell 1⟩
  have HG3 := Lib.hid g3
  have HCL := Lib.hid hcl
  clear hW3 hba hbf hbs g3 r1' r2' r3' hcl
  have hne : ∀ w, (binOp .neq 23 (.agg #[.bool false, .bool false, .bool false]) (.agg #[.bool false, .bool false, .bool false])).run Tryd.prog w = .ok (.bool false) w := fun w => by kernel_rfl
  go_loopw [26] (fun j wr => ∃ k : Nat, k ≤ 2 ∧ j = .int .i64 k ∧ Grows W3 wr) (fun j _ => (2 - intOf j).toNat)
  case atStart => exact ⟨0, by omega, rfl, Grows.refl _⟩
  case round =>
    obtain ⟨k, hk, rfl, hgr⟩ := hrel
    have : k = 0 ∨ k = 1 ∨ k = 2 := by omega
    rcases this with rfl | rfl | rfl
    · have hno := hn0.grows hgr
      clear hn0 hn1
      obtain ⟨⟨a0, a1, a2, a3, a4⟩, a5, a6⟩ := HCL.out _ hgr
      go_wp2_with fail
      refine (Unmap_nob hno pa).mono ?_
      rintro _ v1 ⟨rfl, hv1⟩
      have HV1 := Lib.hid hv1
      have hg2 := hgr.trans hv1
      clear hgr hv1
      have hgr := hg2
      clear hg2
      have hno2 := hno.grows HV1.out
      clear hno HV1
      have hno := hno2
      clear hno2
      obtain ⟨⟨a0, a1, a2, a3, a4⟩, a5, a6⟩ := HCL.out _ hgr
      go_wp2_with fail
      refine (Look_nob hno pa).mono ?_
      rintro _ v1 ⟨rfl, hv1⟩
      have HV1 := Lib.hid hv1
      have hg2 := hgr.trans hv1
      clear hgr hv1
      have hgr := hg2
      clear hg2
      have hno2 := hno.grows HV1.out
      clear hno HV1
      have hno := hno2
      clear hno2
      obtain ⟨⟨a0, a1, a2, a3, a4⟩, a5, a6⟩ := HCL.out _ hgr
      go_wp2_with fail
      obtain ⟨W5, hW5⟩ : ∃ W5, W5 = v1.alloc (Obj.cells #[.bool false, .bool false, .bool false] 23) := ⟨_, rfl⟩
      obtain ⟨b8, hb8⟩ : ∃ b, b = v1.heap.size := ⟨_, rfl⟩
      rw [← hW5, ← hb8]
      have hr8 : Row W5 b8 #[.bool false, .bool false, .bool false] 23 := by rw [hW5]; exact Row.new_at _ _ _ hb8
      have hg5 : Grows v1 W5 := by rw [hW5]; exact (Grows.refl _).alloc _
      have hg35 := hgr.trans hg5
      have HR8 := Lib.hid (fun w' (hg : Grows W5 w') => (⟨(hr8.grows hg).cell 0, (hr8.grows hg).cell 1, (hr8.grows hg).cell 2⟩ : w'.cell? ⟨b8, 0, none⟩ = some (.bool false) ∧ w'.cell? ⟨b8, 1, none⟩ = some (.bool false) ∧ w'.cell? ⟨b8, 2, none⟩ = some (.bool false)))
      have hno5 := hno.grows hg5
      have HG35 := Lib.hid hg35
      clear hW5 hb8 hr8 hg5 hgr hno
      have hno := hno5
      have hgr := Grows.refl W5
      clear hno5 hg35 a0 a1 a2 a3 a4 a5 a6
      obtain ⟨⟨a0, a1, a2, a3, a4⟩, a5, a6⟩ := HCL.out _ (HG35.out.trans hgr)
      obtain ⟨e0, e1, e2⟩ := HR8.out _ hgr
      refine (Pages_nob hno).mono ?_
      rintro _ _ ⟨rfl, hw⟩
      rw [hw]
      clear hw
      go_wp2_with fail
      refine (Root_nob hno).mono ?_
      rintro _ _ ⟨rfl, hw⟩
      rw [hw]
      clear hw
      go_wp2_with fail
      refine (Map_nob hno pa fr r0 r1 r2).mono ?_
      rintro _ v1 ⟨rfl, hv1⟩
      have HV1 := Lib.hid hv1
      have hg2 := hgr.trans hv1
      clear hgr hv1
      have hgr := hg2
      clear hg2
      have hno2 := hno.grows HV1.out
      clear hno HV1
      have hno := hno2
      clear hno2
      obtain ⟨⟨a0, a1, a2, a3, a4⟩, a5, a6⟩ := HCL.out _ (HG35.out.trans hgr)
      obtain ⟨e0, e1, e2⟩ := HR8.out _ hgr
      go_wp2_with fail
      refine (Protect_nob hno pa r0 r1 r2).mono ?_
      rintro _ v1 ⟨rfl, hv1⟩
      have HV1 := Lib.hid hv1
      have hg2 := hgr.trans hv1
      clear hgr hv1
      have hgr := hg2
      clear hg2
      have hno2 := hno.grows HV1.out
      clear hno HV1
      have hno := hno2
      clear hno2
      obtain ⟨⟨a0, a1, a2, a3, a4⟩, a5, a6⟩ := HCL.out _ (HG35.out.trans hgr)
      obtain ⟨e0, e1, e2⟩ := HR8.out _ hgr
      go_wp2_with fail
      refine (Close_nob hno).mono ?_
      rintro _ _ ⟨rfl, hw⟩
      rw [hw]
      clear hw
      go_wp2_with fail
      have hgf := HG35.out.trans hgr
      clear hgr
      have hgr := hgf
      clear hgf
      exact ⟨⟨1, by omega, by simp, hgr⟩, by simp [intOf]⟩
    · have hno := hn1.grows hgr
      clear hn0 hn1
      obtain ⟨⟨a0, a1, a2, a3, a4⟩, a5, a6⟩ := HCL.out _ hgr
      go_wp2_with fail
      refine (Unmap_nob hno pa).mono ?_
      rintro _ v1 ⟨rfl, hv1⟩
      have HV1 := Lib.hid hv1
      have hg2 := hgr.trans hv1
      clear hgr hv1
      have hgr := hg2
      clear hg2
      have hno2 := hno.grows HV1.out
      clear hno HV1
      have hno := hno2
      clear hno2
      obtain ⟨⟨a0, a1, a2, a3, a4⟩, a5, a6⟩ := HCL.out _ hgr
      go_wp2_with fail
      refine (Look_nob hno pa).mono ?_
      rintro _ v1 ⟨rfl, hv1⟩
      have HV1 := Lib.hid hv1
      have hg2 := hgr.trans hv1
      clear hgr hv1
      have hgr := hg2
      clear hg2
      have hno2 := hno.grows HV1.out
      clear hno HV1
      have hno := hno2
      clear hno2
      obtain ⟨⟨a0, a1, a2, a3, a4⟩, a5, a6⟩ := HCL.out _ hgr
      go_wp2_with fail
      obtain ⟨W5, hW5⟩ : ∃ W5, W5 = v1.alloc (Obj.cells #[.bool false, .bool false, .bool false] 23) := ⟨_, rfl⟩
      obtain ⟨b8, hb8⟩ : ∃ b, b = v1.heap.size := ⟨_, rfl⟩
      rw [← hW5, ← hb8]
      have hr8 : Row W5 b8 #[.bool false, .bool false, .bool false] 23 := by rw [hW5]; exact Row.new_at _ _ _ hb8
      have hg5 : Grows v1 W5 := by rw [hW5]; exact (Grows.refl _).alloc _
      have hg35 := hgr.trans hg5
      have HR8 := Lib.hid (fun w' (hg : Grows W5 w') => (⟨(hr8.grows hg).cell 0, (hr8.grows hg).cell 1, (hr8.grows hg).cell 2⟩ : w'.cell? ⟨b8, 0, none⟩ = some (.bool false) ∧ w'.cell? ⟨b8, 1, none⟩ = some (.bool false) ∧ w'.cell? ⟨b8, 2, none⟩ = some (.bool false)))
      have hno5 := hno.grows hg5
      have HG35 := Lib.hid hg35
      clear hW5 hb8 hr8 hg5 hgr hno
      have hno := hno5
      have hgr := Grows.refl W5
      clear hno5 hg35 a0 a1 a2 a3 a4 a5 a6
      obtain ⟨⟨a0, a1, a2, a3, a4⟩, a5, a6⟩ := HCL.out _ (HG35.out.trans hgr)
      obtain ⟨e0, e1, e2⟩ := HR8.out _ hgr
      refine (Pages_nob hno).mono ?_
      rintro _ _ ⟨rfl, hw⟩
      rw [hw]
      clear hw
      go_wp2_with fail
      refine (Root_nob hno).mono ?_
      rintro _ _ ⟨rfl, hw⟩
      rw [hw]
      clear hw
      go_wp2_with fail
      refine (Map_nob hno pa fr r0 r1 r2).mono ?_
      rintro _ v1 ⟨rfl, hv1⟩
      have HV1 := Lib.hid hv1
      have hg2 := hgr.trans hv1
      clear hgr hv1
      have hgr := hg2
      clear hg2
      have hno2 := hno.grows HV1.out
      clear hno HV1
      have hno := hno2
      clear hno2
      obtain ⟨⟨a0, a1, a2, a3, a4⟩, a5, a6⟩ := HCL.out _ (HG35.out.trans hgr)
      obtain ⟨e0, e1, e2⟩ := HR8.out _ hgr
      go_wp2_with fail
      refine (Protect_nob hno pa r0 r1 r2).mono ?_
      rintro _ v1 ⟨rfl, hv1⟩
      have HV1 := Lib.hid hv1
      have hg2 := hgr.trans hv1
      clear hgr hv1
      have hgr := hg2
      clear hg2
      have hno2 := hno.grows HV1.out
      clear hno HV1
      have hno := hno2
      clear hno2
      obtain ⟨⟨a0, a1, a2, a3, a4⟩, a5, a6⟩ := HCL.out _ (HG35.out.trans hgr)
      obtain ⟨e0, e1, e2⟩ := HR8.out _ hgr
      go_wp2_with fail
      refine (Close_nob hno).mono ?_
      rintro _ _ ⟨rfl, hw⟩
      rw [hw]
      clear hw
      go_wp2_with fail
      have hgf := HG35.out.trans hgr
      clear hgr
      have hgr := hgf
      clear hgf
      exact ⟨⟨2, by omega, by simp, hgr⟩, by simp [intOf]⟩
    · have HG := Lib.hid (HG3.out.trans hgr)
      clear hn0 hn1 hgr
      go_wp2_with fail
      refine (new_ok 2 (by omega) (by omega) _).mono ?_
      rintro _ w1 ⟨p, q, rfl, hM1, hg1, hp, hq, hqp⟩
      go_wp2_with fail
      refine (fnew_ok w1 (n := 2) (first := 0) (by omega) (by omega) (by omega)).mono ?_
      rintro _ w2 ⟨pf, bt, bw, rfl, _, hg2, _, _, _⟩
      have hM2 := MemAt.grows hM1 hg2
      have HG2 := Lib.hid ((HG.out.trans hg1).trans hg2)
      clear hM1 hg1 hp hq hqp hg2
      go_wp2_with fail
      refine (snew_mem (Or.inl rfl) _ _).mono ?_
      rintro _ w3 ⟨rfl, hg3⟩
      have hM3 := MemAt.grows hM2 hg3
      have HG3' := Lib.hid (HG2.out.trans hg3)
      clear hM2 hg3 HG2
      go_wp2_with fail
      refine (snew_fr hM3 (by omega) (Or.inl rfl) _).mono ?_
      rintro _ w4 ⟨rfl, hg4⟩
      have hM4 := MemAt.grows hM3 hg4
      have HG4 := Lib.hid (HG3'.out.trans hg4)
      clear hM3 hg4 HG3'
      go_wp2_with fail
      rw [zeroF_def]
      obtain ⟨W5, hW5⟩ : ∃ W5, W5 = w4.alloc (Obj.cells zeroF 53) := ⟨_, rfl⟩
      obtain ⟨bz, hbz⟩ : ∃ b, b = w4.heap.size := ⟨_, rfl⟩
      rw [← hW5, ← hbz]
      have hr5 : Row W5 bz zeroF 53 := by rw [hW5]; exact Row.new_at _ _ _ hbz
      have hg5 : Grows w4 W5 := by rw [hW5]; exact (Grows.refl _).alloc _
      have hM5 := MemAt.grows hM4 hg5
      have hno : NoFr W5 (some ⟨bz, 0, none⟩) := Or.inr ⟨bz, rfl, hr5.lt, hr5.cell 2⟩
      have HG5 := Lib.hid (HG4.out.trans hg5)
      clear hW5 hbz hr5 hg5 hM4 HG4
      refine (snew_fr hM5 (by omega) hno _).mono ?_
      rintro _ w6 ⟨rfl, hg6⟩
      have HG6 := Lib.hid (HG5.out.trans hg6)
      clear hM5 hno hg6 HG5
      go_wp2_with fail
      go_ret
      exact ⟨rfl, HG6.out⟩
theorem stageNobody_walk (ki : Int) (_ : (Lit.int .i64 ki).wf = true) (wh : Int) (_ : (Lit.int .i64 wh).wf = true) (pa : Int) (_ : (Lit.int .i64 pa).wf = true) (fr : Int) (_ : (Lit.int .i64 fr).wf = true) (r0 r1 r2 : Bool) (w : World) (_ : Widths w) (_ : Places w) :
    Calls Tryd.prog 3 #[.agg #[.int .i64 ki, .int .i64 wh, .int .i64 pa, .int .i64 fr, .bool r0, .bool r1, .bool r2]] w fun r w' => r = .returned (.bool true) ∧ Grows w w' :=
  stageNobody_law ki wh pa fr r0 r1 r2 w
end Go.Proofs.YtlchlklbjocliaaDoor
