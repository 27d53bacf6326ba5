/- What Valid of the package insn computes. -/
import Derived.Test.YtjbgamifkgeodaaDoorInsnV
import Derived.Deep.DeepCutAuto
namespace Go.Proofs.YtjbgamifkgeodaaDoor
open Go Go.RowKit
set_option linter.unusedSimpArgs false
set_option linter.unusedVariables false
def OkUpTo (s rd r1 r2 : Int) (k : Nat) : Prop := (1 ≤ k → regB rd (s == 1 || s == 2 || s == 5) = true) ∧ (2 ≤ k → regB r1 (s != 0 && s != 5) = true) ∧ (3 ≤ k → regB r2 (s == 1 || s == 3 || s == 4) = true)
theorem okUpTo_0 (s rd r1 r2 : Int) : OkUpTo s rd r1 r2 0 := ⟨fun h => absurd h (by omega), fun h => absurd h (by omega), fun h => absurd h (by omega)⟩
theorem okUpTo_s {s rd r1 r2 : Int} {k : Nat} (h : OkUpTo s rd r1 r2 k) (g : (k = 0 ∧ regB rd (s == 1 || s == 2 || s == 5) = true) ∨ (k = 1 ∧ regB r1 (s != 0 && s != 5) = true) ∨ (k = 2 ∧ regB r2 (s == 1 || s == 3 || s == 4) = true)) : OkUpTo s rd r1 r2 (k + 1) := by
  obtain ⟨a, b, c⟩ := h
  rcases g with ⟨rfl, g⟩ | ⟨rfl, g⟩ | ⟨rfl, g⟩
  · exact ⟨fun _ => g, fun h => absurd h (by omega), fun h => absurd h (by omega)⟩
  · exact ⟨fun _ => a (by omega), fun _ => g, fun h => absurd h (by omega)⟩
  · exact ⟨fun _ => a (by omega), fun _ => b (by omega), fun _ => g⟩
theorem okUpTo_3 {s rd r1 r2 : Int} (h : OkUpTo s rd r1 r2 3) : (regB rd (s == 1 || s == 2 || s == 5) && regB r1 (s != 0 && s != 5) && regB r2 (s == 1 || s == 3 || s == 4)) = true := by
  rw [h.1 (by omega), h.2.1 (by omega), h.2.2 (by omega)]; rfl
set_option maxRecDepth 100000 in
set_option maxHeartbeats 4000000 in
theorem valid_any (op rd r1 r2 v : Int) (wo : wf64 op) (w : World) :
    Calls Tryd.prog 35 #[.agg #[.int .i64 op, .int .i64 rd, .int .i64 r1, .int .i64 r2, .int .i64 v]] w fun r w' => r = .returned (.bool (validB op rd r1 r2 v)) ∧ Grows w w' := by
  by_cases hs : 0 ≤ shapeZ op
  · obtain ⟨s, hse⟩ : ∃ s, s = shapeZ op := ⟨_, rfl⟩
    have hsh := fun w => shape_yes wo hs w
    have hr := shapeZ_range op
    cases hi : immB op (shapeZ op) v
    · have e : validB op rd r1 r2 v = false := by simp [validB, hi]
      rw [e]
      clear e
      rw [← hse] at hi hsh
      have HI := Lib.hid hi
      clear hi hse hr hs
      go_enter Tryd.func35, Tryd.ntmps35
      iterate 8 (first | go_values | go_skip | go_guarded | go_step | go_upon | go_back)
      obtain ⟨b0, hb0⟩ : ∃ b, b = w.heap.size := ⟨_, rfl⟩
      obtain ⟨W, hW⟩ : ∃ W, W = w.alloc (Obj.cells #[.int .i64 op, .int .i64 rd, .int .i64 r1, .int .i64 r2, .int .i64 v] 41) := ⟨_, rfl⟩
      rw [← hW, ← hb0]
      have hX : Row W b0 #[.int .i64 op, .int .i64 rd, .int .i64 r1, .int .i64 r2, .int .i64 v] 41 := by rw [hW]; exact Row.new_at _ _ _ hb0
      have HG := Lib.hid (show Grows w W by rw [hW]; exact (Grows.refl _).alloc _)
      clear hW hb0
      have x0 : World.cell? W ⟨b0, 0, none⟩ = some (.int .i64 op) := hX.cell 0
      have x1 : World.cell? W ⟨b0, 1, none⟩ = some (.int .i64 rd) := hX.cell 1
      have x2 : World.cell? W ⟨b0, 2, none⟩ = some (.int .i64 r1) := hX.cell 2
      have x3 : World.cell? W ⟨b0, 3, none⟩ = some (.int .i64 r2) := hX.cell 3
      have x4 : World.cell? W ⟨b0, 4, none⟩ = some (.int .i64 v) := hX.cell 4
      have lx := hX.lt
      go_wp2_with fail
      refine (hsh _).mono ?_
      rintro _ w1 ⟨rfl, g1, rfl⟩
      have hX1 := hX.grows (Grows.of W g1)
      clear hX
      go_wp2_with fail
      refine (immOf_any _ _ _ _).mono ?_
      rintro _ w2 ⟨rfl, g2, rfl⟩
      rw [HI.out]
      go_wp2_with fail
      go_ret
      exact ⟨rfl, HG.out.grow _⟩
    · by_cases hL : op = 37 ∧ r2 ≠ 0
      · obtain ⟨h37, hz⟩ := hL
        have e : validB op rd r1 r2 v = false := by
          have h371 : shapeZ op = 1 := by rw [h37]; decide
          have hreg : regB r2 (shapeZ op == 1 && op != 37 || shapeZ op == 3 || shapeZ op == 4) = false := by
            rw [h371, h37]; simp [regB, hz]
          unfold validB
          rw [hreg, Bool.and_false]
        have b37 : (op == 37) = true := by simp [h37]
        clear h37
        rw [e]
        clear e
        have bz : (r2 != 0) = true := by simp [hz]
        rw [← hse] at hi hsh
        have HI := Lib.hid hi
        clear hi hse hr hs hz
        go_enter Tryd.func35, Tryd.ntmps35
        iterate 8 (first | go_values | go_skip | go_guarded | go_step | go_upon | go_back)
        obtain ⟨b0, hb0⟩ : ∃ b, b = w.heap.size := ⟨_, rfl⟩
        obtain ⟨W, hW⟩ : ∃ W, W = w.alloc (Obj.cells #[.int .i64 op, .int .i64 rd, .int .i64 r1, .int .i64 r2, .int .i64 v] 41) := ⟨_, rfl⟩
        rw [← hW, ← hb0]
        have hX : Row W b0 #[.int .i64 op, .int .i64 rd, .int .i64 r1, .int .i64 r2, .int .i64 v] 41 := by rw [hW]; exact Row.new_at _ _ _ hb0
        have HG := Lib.hid (show Grows w W by rw [hW]; exact (Grows.refl _).alloc _)
        clear hW hb0
        have x0 : World.cell? W ⟨b0, 0, none⟩ = some (.int .i64 op) := hX.cell 0
        have x1 : World.cell? W ⟨b0, 1, none⟩ = some (.int .i64 rd) := hX.cell 1
        have x2 : World.cell? W ⟨b0, 2, none⟩ = some (.int .i64 r1) := hX.cell 2
        have x3 : World.cell? W ⟨b0, 3, none⟩ = some (.int .i64 r2) := hX.cell 3
        have x4 : World.cell? W ⟨b0, 4, none⟩ = some (.int .i64 v) := hX.cell 4
        have lx := hX.lt
        go_wp2_with fail
        refine (hsh _).mono ?_
        rintro _ w1 ⟨rfl, g1, rfl⟩
        obtain ⟨W1, hW1⟩ : ∃ W1, W1 = W.grow g1 := ⟨_, rfl⟩
        rw [← hW1]
        replace hX := (hW1 ▸ hX.grows (Grows.of W g1) : Row W1 b0 _ _)
        replace HG := Lib.hid (show Grows w W1 by rw [hW1]; exact HG.out.grow _)
        clear hW1 x0 x1 x2 x3 x4 lx
        have x0 : World.cell? W1 ⟨b0, 0, none⟩ = some (.int .i64 op) := hX.cell 0
        have x1 : World.cell? W1 ⟨b0, 1, none⟩ = some (.int .i64 rd) := hX.cell 1
        have x2 : World.cell? W1 ⟨b0, 2, none⟩ = some (.int .i64 r1) := hX.cell 2
        have x3 : World.cell? W1 ⟨b0, 3, none⟩ = some (.int .i64 r2) := hX.cell 3
        have x4 : World.cell? W1 ⟨b0, 4, none⟩ = some (.int .i64 v) := hX.cell 4
        have lx := hX.lt
        go_wp2_with fail
        refine (immOf_any _ _ _ _).mono ?_
        rintro _ w2 ⟨rfl, g2, rfl⟩
        rw [HI.out]
        obtain ⟨W2, hW2⟩ : ∃ W2, W2 = W1.grow g2 := ⟨_, rfl⟩
        rw [← hW2]
        replace hX := (hW2 ▸ hX.grows (Grows.of W1 g2) : Row W2 b0 _ _)
        replace HG := Lib.hid (show Grows w W2 by rw [hW2]; exact HG.out.grow _)
        clear hW2 x0 x1 x2 x3 x4 lx
        have x0 : World.cell? W2 ⟨b0, 0, none⟩ = some (.int .i64 op) := hX.cell 0
        have x1 : World.cell? W2 ⟨b0, 1, none⟩ = some (.int .i64 rd) := hX.cell 1
        have x2 : World.cell? W2 ⟨b0, 2, none⟩ = some (.int .i64 r1) := hX.cell 2
        have x3 : World.cell? W2 ⟨b0, 3, none⟩ = some (.int .i64 r2) := hX.cell 3
        have x4 : World.cell? W2 ⟨b0, 4, none⟩ = some (.int .i64 v) := hX.cell 4
        have lx := hX.lt
        go_wp2_with fail
        go_ret
        exact ⟨rfl, HG.out⟩
      · have hE : validB op rd r1 r2 v = (regB rd (s == 1 || s == 2 || s == 5) && regB r1 (s != 0 && s != 5) && regB r2 (s == 1 || s == 3 || s == 4)) := by
          rw [hse]
          unfold validB
          rw [hi, decide_eq_true hs]
          simp only [Bool.true_and]
          by_cases h37 : op = 37
          · have hz : r2 = 0 := by
              rcases Decidable.em (r2 = 0) with h | h
              · exact h
              · exact absurd ⟨h37, h⟩ hL
            subst hz
            simp [regB]
          · have : (op != 37) = true := by simp [h37]
            rw [this, Bool.and_true]
        have hg : (op == 37 && r2 != 0) = false := by
          rw [Bool.and_eq_false_iff]
          rcases Decidable.em (op = 37) with h | h
          · right
            rcases Decidable.em (r2 = 0) with h' | h'
            · simp [h']
            · exact absurd ⟨h, h'⟩ hL
          · left; simp [h]
        have hs7 : s = 0 ∨ s = 1 ∨ s = 2 ∨ s = 3 ∨ s = 4 ∨ s = 5 ∨ s = 6 := by omega
        rw [← hse] at hi hsh
        clear hse hr hs hL
        have hcases : ((op == 37) = false) ∨ ((op == 37) = true ∧ (r2 != 0) = false) := by
          cases h : (op == 37)
          · exact Or.inl rfl
          · rw [h] at hg; exact Or.inr ⟨rfl, by simpa using hg⟩
        clear hg
        rcases hcases with h37 | ⟨h37, hz⟩
        all_goals
          have HI := Lib.hid hi
          have HE := Lib.hid hE
          clear hi hE
        · go_enter Tryd.func35, Tryd.ntmps35
          iterate 8 (first | go_values | go_skip | go_guarded | go_step | go_upon | go_back)
          obtain ⟨b0, hb0⟩ : ∃ b, b = w.heap.size := ⟨_, rfl⟩
          obtain ⟨W, hW⟩ : ∃ W, W = w.alloc (Obj.cells #[.int .i64 op, .int .i64 rd, .int .i64 r1, .int .i64 r2, .int .i64 v] 41) := ⟨_, rfl⟩
          rw [← hW, ← hb0]
          have hX : Row W b0 #[.int .i64 op, .int .i64 rd, .int .i64 r1, .int .i64 r2, .int .i64 v] 41 := by rw [hW]; exact Row.new_at _ _ _ hb0
          have HG := Lib.hid (show Grows w W by rw [hW]; exact (Grows.refl _).alloc _)
          clear hW hb0
          have x0 : World.cell? W ⟨b0, 0, none⟩ = some (.int .i64 op) := hX.cell 0
          have x1 : World.cell? W ⟨b0, 1, none⟩ = some (.int .i64 rd) := hX.cell 1
          have x2 : World.cell? W ⟨b0, 2, none⟩ = some (.int .i64 r1) := hX.cell 2
          have x3 : World.cell? W ⟨b0, 3, none⟩ = some (.int .i64 r2) := hX.cell 3
          have x4 : World.cell? W ⟨b0, 4, none⟩ = some (.int .i64 v) := hX.cell 4
          have lx := hX.lt
          go_wp2_with fail
          refine (hsh _).mono ?_
          rintro _ w1 ⟨rfl, g1, rfl⟩
          obtain ⟨W1, hW1⟩ : ∃ W1, W1 = W.grow g1 := ⟨_, rfl⟩
          rw [← hW1]
          replace hX := (hW1 ▸ hX.grows (Grows.of W g1) : Row W1 b0 _ _)
          replace HG := Lib.hid (show Grows w W1 by rw [hW1]; exact HG.out.grow _)
          clear hW1 x0 x1 x2 x3 x4 lx
          have x0 : World.cell? W1 ⟨b0, 0, none⟩ = some (.int .i64 op) := hX.cell 0
          have x1 : World.cell? W1 ⟨b0, 1, none⟩ = some (.int .i64 rd) := hX.cell 1
          have x2 : World.cell? W1 ⟨b0, 2, none⟩ = some (.int .i64 r1) := hX.cell 2
          have x3 : World.cell? W1 ⟨b0, 3, none⟩ = some (.int .i64 r2) := hX.cell 3
          have x4 : World.cell? W1 ⟨b0, 4, none⟩ = some (.int .i64 v) := hX.cell 4
          have lx := hX.lt
          go_wp2_with fail
          refine (immOf_any _ _ _ _).mono ?_
          rintro _ w2 ⟨rfl, g2, rfl⟩
          rw [HI.out]
          obtain ⟨W2, hW2⟩ : ∃ W2, W2 = W1.grow g2 := ⟨_, rfl⟩
          rw [← hW2]
          replace hX := (hW2 ▸ hX.grows (Grows.of W1 g2) : Row W2 b0 _ _)
          replace HG := Lib.hid (show Grows w W2 by rw [hW2]; exact HG.out.grow _)
          clear hW2 x0 x1 x2 x3 x4 lx
          have x0 : World.cell? W2 ⟨b0, 0, none⟩ = some (.int .i64 op) := hX.cell 0
          have x1 : World.cell? W2 ⟨b0, 1, none⟩ = some (.int .i64 rd) := hX.cell 1
          have x2 : World.cell? W2 ⟨b0, 2, none⟩ = some (.int .i64 r1) := hX.cell 2
          have x3 : World.cell? W2 ⟨b0, 3, none⟩ = some (.int .i64 r2) := hX.cell 3
          have x4 : World.cell? W2 ⟨b0, 4, none⟩ = some (.int .i64 v) := hX.cell 4
          have lx := hX.lt
          go_upto_region 4 with fail
          go_cut [69, 70, 71] (fun s69 s70 s71 wx => ∃ (b3 : Nat) (Wc : World), Wc = wx ∧ s69 = .slice (some ⟨b3, 0, none⟩) 3 3 ∧ s70 = .int .i64 3 ∧ s71 = .int .i64 0 ∧ Grows w wx ∧ Row wx b3 #[.int .i64 rd, .bool (s == 1 || s == 2 || s == 5), .int .i64 r1, .bool (s != 0 && s != 5), .int .i64 r2, .bool (s == 1 || s == 3 || s == 4)] 74)
          case first =>
            clear HE hsh HI
            rcases hs7 with rfl | rfl | rfl | rfl | rfl | rfl | rfl
            all_goals
              go_wp2_with fail
              go_meet
              exact ⟨W2.heap.size, _, rfl, rfl, rfl, rfl, HG.out.alloc _, Row.new _ _ _⟩
          case rest =>
            clear HG x0 x1 x2 x3 x4 lx hX hs7
            obtain ⟨b3, W3, rfl, rfl, rfl, rfl, hg3, hC⟩ := hcut
            have HG3 := Lib.hid hg3
            clear hg3
            go_wp2_with fail
            go_loopw [71] (fun i wr => (∃ k : Nat, k ≤ 3 ∧ i = .int .i64 k ∧ OkUpTo s rd r1 r2 k) ∧ Grows W3 wr) (fun i _ => (3 - intOf i).toNat)
            case atStart => exact ⟨⟨0, by omega, rfl, okUpTo_0 _ _ _ _⟩, Grows.refl _⟩
            case round =>
              obtain ⟨⟨k, hk, rfl, hok⟩, hgr⟩ := hrel
              have hC' := hC.grows hgr
              clear hC
              by_cases hlt : k < 3
              · obtain ⟨r, h, hr, hh, hyes, hno⟩ : ∃ (r : Int) (h : Bool), wr.cell? ⟨b3, k * 2, none⟩ = some (.int .i64 r) ∧ wr.cell? ⟨b3, k * 2 + 1, none⟩ = some (.bool h) ∧ (regB r h = true → OkUpTo s rd r1 r2 (k + 1)) ∧ (regB r h = false → validB op rd r1 r2 v = false) := by
                  have hk3 : k = 0 ∨ k = 1 ∨ k = 2 := by omega
                  rcases hk3 with rfl | rfl | rfl
                  · exact ⟨_, _, hC'.cell 0, hC'.cell 1, fun h => okUpTo_s hok (Or.inl ⟨rfl, h⟩), fun h => by rw [HE.out]; simp only [h]; rfl⟩
                  · exact ⟨_, _, hC'.cell 2, hC'.cell 3, fun h => okUpTo_s hok (Or.inr (Or.inl ⟨rfl, h⟩)), fun h => by rw [HE.out]; simp only [h, Bool.and_false, Bool.false_and]⟩
                  · exact ⟨_, _, hC'.cell 4, hC'.cell 5, fun h => okUpTo_s hok (Or.inr (Or.inr ⟨rfl, h⟩)), fun h => by rw [HE.out]; simp only [h, Bool.and_false]⟩
                have lc := hC'.lt
                have HOK := Lib.hid hok
                clear hC' hok
                by_cases hr0 : 0 ≤ r
                · by_cases hr15 : r ≤ 15
                  · by_cases hz : r = 0
                    · have HY := Lib.hid (hyes (by simp [regB, hz]))
                      subst hz
                      clear hyes hno hr0 hr15
                      go_wp2_with fail
                      exact ⟨⟨⟨k + 1, by omega, by simp, HY.out⟩, (hgr.alloc _)⟩, by simp [intOf]; omega⟩
                    · have hpos : 0 < r := by omega
                      cases h
                      · have HN := Lib.hid (hno (by simp [regB, hz]))
                        clear hyes hno hz hr0
                        go_wp2_with fail
                        go_ret
                        exact ⟨by rw [HN.out]; rfl, (HG3.out.trans hgr).alloc _⟩
                      · have HY := Lib.hid (hyes (by simp [regB, hr0, hr15]))
                        clear hyes hno hz hr0
                        go_wp2_with fail
                        exact ⟨⟨⟨k + 1, by omega, by simp, HY.out⟩, (hgr.alloc _)⟩, by simp [intOf]; omega⟩
                  · have HN := Lib.hid (hno (by simp [regB, hr15]))
                    clear hyes hno
                    go_wp2_with fail
                    go_ret
                    exact ⟨by rw [HN.out]; rfl, (HG3.out.trans hgr).alloc _⟩
                · have HN := Lib.hid (hno (by simp [regB, hr0]))
                  have hr0' : r < 0 := by omega
                  clear hyes hno hr0
                  go_wp2_with fail
                  go_ret
                  exact ⟨by rw [HN.out]; rfl, (HG3.out.trans hgr).alloc _⟩
              · have : k = 3 := by omega
                subst this
                have HV := Lib.hid (show validB op rd r1 r2 v = true by rw [HE.out]; exact okUpTo_3 hok)
                clear hok
                go_wp2_with fail
                go_ret
                exact ⟨by rw [HV.out]; rfl, HG3.out.trans hgr⟩
        · go_enter Tryd.func35, Tryd.ntmps35
          iterate 8 (first | go_values | go_skip | go_guarded | go_step | go_upon | go_back)
          obtain ⟨b0, hb0⟩ : ∃ b, b = w.heap.size := ⟨_, rfl⟩
          obtain ⟨W, hW⟩ : ∃ W, W = w.alloc (Obj.cells #[.int .i64 op, .int .i64 rd, .int .i64 r1, .int .i64 r2, .int .i64 v] 41) := ⟨_, rfl⟩
          rw [← hW, ← hb0]
          have hX : Row W b0 #[.int .i64 op, .int .i64 rd, .int .i64 r1, .int .i64 r2, .int .i64 v] 41 := by rw [hW]; exact Row.new_at _ _ _ hb0
          have HG := Lib.hid (show Grows w W by rw [hW]; exact (Grows.refl _).alloc _)
          clear hW hb0
          have x0 : World.cell? W ⟨b0, 0, none⟩ = some (.int .i64 op) := hX.cell 0
          have x1 : World.cell? W ⟨b0, 1, none⟩ = some (.int .i64 rd) := hX.cell 1
          have x2 : World.cell? W ⟨b0, 2, none⟩ = some (.int .i64 r1) := hX.cell 2
          have x3 : World.cell? W ⟨b0, 3, none⟩ = some (.int .i64 r2) := hX.cell 3
          have x4 : World.cell? W ⟨b0, 4, none⟩ = some (.int .i64 v) := hX.cell 4
          have lx := hX.lt
          go_wp2_with fail
          refine (hsh _).mono ?_
          rintro _ w1 ⟨rfl, g1, rfl⟩
          obtain ⟨W1, hW1⟩ : ∃ W1, W1 = W.grow g1 := ⟨_, rfl⟩
          rw [← hW1]
          replace hX := (hW1 ▸ hX.grows (Grows.of W g1) : Row W1 b0 _ _)
          replace HG := Lib.hid (show Grows w W1 by rw [hW1]; exact HG.out.grow _)
          clear hW1 x0 x1 x2 x3 x4 lx
          have x0 : World.cell? W1 ⟨b0, 0, none⟩ = some (.int .i64 op) := hX.cell 0
          have x1 : World.cell? W1 ⟨b0, 1, none⟩ = some (.int .i64 rd) := hX.cell 1
          have x2 : World.cell? W1 ⟨b0, 2, none⟩ = some (.int .i64 r1) := hX.cell 2
          have x3 : World.cell? W1 ⟨b0, 3, none⟩ = some (.int .i64 r2) := hX.cell 3
          have x4 : World.cell? W1 ⟨b0, 4, none⟩ = some (.int .i64 v) := hX.cell 4
          have lx := hX.lt
          go_wp2_with fail
          refine (immOf_any _ _ _ _).mono ?_
          rintro _ w2 ⟨rfl, g2, rfl⟩
          rw [HI.out]
          obtain ⟨W2, hW2⟩ : ∃ W2, W2 = W1.grow g2 := ⟨_, rfl⟩
          rw [← hW2]
          replace hX := (hW2 ▸ hX.grows (Grows.of W1 g2) : Row W2 b0 _ _)
          replace HG := Lib.hid (show Grows w W2 by rw [hW2]; exact HG.out.grow _)
          clear hW2 x0 x1 x2 x3 x4 lx
          have x0 : World.cell? W2 ⟨b0, 0, none⟩ = some (.int .i64 op) := hX.cell 0
          have x1 : World.cell? W2 ⟨b0, 1, none⟩ = some (.int .i64 rd) := hX.cell 1
          have x2 : World.cell? W2 ⟨b0, 2, none⟩ = some (.int .i64 r1) := hX.cell 2
          have x3 : World.cell? W2 ⟨b0, 3, none⟩ = some (.int .i64 r2) := hX.cell 3
          have x4 : World.cell? W2 ⟨b0, 4, none⟩ = some (.int .i64 v) := hX.cell 4
          have lx := hX.lt
          go_upto_region 4 with fail
          go_cut [69, 70, 71] (fun s69 s70 s71 wx => ∃ (b3 : Nat) (Wc : World), Wc = wx ∧ s69 = .slice (some ⟨b3, 0, none⟩) 3 3 ∧ s70 = .int .i64 3 ∧ s71 = .int .i64 0 ∧ Grows w wx ∧ Row wx b3 #[.int .i64 rd, .bool (s == 1 || s == 2 || s == 5), .int .i64 r1, .bool (s != 0 && s != 5), .int .i64 r2, .bool (s == 1 || s == 3 || s == 4)] 74)
          case first =>
            clear HE hsh HI
            rcases hs7 with rfl | rfl | rfl | rfl | rfl | rfl | rfl
            all_goals
              go_wp2_with fail
              go_meet
              exact ⟨W2.heap.size, _, rfl, rfl, rfl, rfl, HG.out.alloc _, Row.new _ _ _⟩
          case rest =>
            clear HG x0 x1 x2 x3 x4 lx hX hs7
            obtain ⟨b3, W3, rfl, rfl, rfl, rfl, hg3, hC⟩ := hcut
            have HG3 := Lib.hid hg3
            clear hg3
            go_wp2_with fail
            go_loopw [71] (fun i wr => (∃ k : Nat, k ≤ 3 ∧ i = .int .i64 k ∧ OkUpTo s rd r1 r2 k) ∧ Grows W3 wr) (fun i _ => (3 - intOf i).toNat)
            case atStart => exact ⟨⟨0, by omega, rfl, okUpTo_0 _ _ _ _⟩, Grows.refl _⟩
            case round =>
              obtain ⟨⟨k, hk, rfl, hok⟩, hgr⟩ := hrel
              have hC' := hC.grows hgr
              clear hC
              by_cases hlt : k < 3
              · obtain ⟨r, h, hr, hh, hyes, hno⟩ : ∃ (r : Int) (h : Bool), wr.cell? ⟨b3, k * 2, none⟩ = some (.int .i64 r) ∧ wr.cell? ⟨b3, k * 2 + 1, none⟩ = some (.bool h) ∧ (regB r h = true → OkUpTo s rd r1 r2 (k + 1)) ∧ (regB r h = false → validB op rd r1 r2 v = false) := by
                  have hk3 : k = 0 ∨ k = 1 ∨ k = 2 := by omega
                  rcases hk3 with rfl | rfl | rfl
                  · exact ⟨_, _, hC'.cell 0, hC'.cell 1, fun h => okUpTo_s hok (Or.inl ⟨rfl, h⟩), fun h => by rw [HE.out]; simp only [h]; rfl⟩
                  · exact ⟨_, _, hC'.cell 2, hC'.cell 3, fun h => okUpTo_s hok (Or.inr (Or.inl ⟨rfl, h⟩)), fun h => by rw [HE.out]; simp only [h, Bool.and_false, Bool.false_and]⟩
                  · exact ⟨_, _, hC'.cell 4, hC'.cell 5, fun h => okUpTo_s hok (Or.inr (Or.inr ⟨rfl, h⟩)), fun h => by rw [HE.out]; simp only [h, Bool.and_false]⟩
                have lc := hC'.lt
                have HOK := Lib.hid hok
                clear hC' hok
                by_cases hr0 : 0 ≤ r
                · by_cases hr15 : r ≤ 15
                  · by_cases hz : r = 0
                    · have HY := Lib.hid (hyes (by simp [regB, hz]))
                      subst hz
                      clear hyes hno hr0 hr15
                      go_wp2_with fail
                      exact ⟨⟨⟨k + 1, by omega, by simp, HY.out⟩, (hgr.alloc _)⟩, by simp [intOf]; omega⟩
                    · have hpos : 0 < r := by omega
                      cases h
                      · have HN := Lib.hid (hno (by simp [regB, hz]))
                        clear hyes hno hz hr0
                        go_wp2_with fail
                        go_ret
                        exact ⟨by rw [HN.out]; rfl, (HG3.out.trans hgr).alloc _⟩
                      · have HY := Lib.hid (hyes (by simp [regB, hr0, hr15]))
                        clear hyes hno hz hr0
                        go_wp2_with fail
                        exact ⟨⟨⟨k + 1, by omega, by simp, HY.out⟩, (hgr.alloc _)⟩, by simp [intOf]; omega⟩
                  · have HN := Lib.hid (hno (by simp [regB, hr15]))
                    clear hyes hno
                    go_wp2_with fail
                    go_ret
                    exact ⟨by rw [HN.out]; rfl, (HG3.out.trans hgr).alloc _⟩
                · have HN := Lib.hid (hno (by simp [regB, hr0]))
                  have hr0' : r < 0 := by omega
                  clear hyes hno hr0
                  go_wp2_with fail
                  go_ret
                  exact ⟨by rw [HN.out]; rfl, (HG3.out.trans hgr).alloc _⟩
              · have : k = 3 := by omega
                subst this
                have HV := Lib.hid (show validB op rd r1 r2 v = true by rw [HE.out]; exact okUpTo_3 hok)
                clear hok
                go_wp2_with fail
                go_ret
                exact ⟨by rw [HV.out]; rfl, HG3.out.trans hgr⟩
  · have e : validB op rd r1 r2 v = false := by simp [validB, hs]
    rw [e]
    clear e
    have hsh := fun w => shape_no wo hs w
    clear hs
    go_enter Tryd.func35, Tryd.ntmps35
    iterate 8 (first | go_values | go_skip | go_guarded | go_step | go_upon | go_back)
    obtain ⟨b0, hb0⟩ : ∃ b, b = w.heap.size := ⟨_, rfl⟩
    obtain ⟨W, hW⟩ : ∃ W, W = w.alloc (Obj.cells #[.int .i64 op, .int .i64 rd, .int .i64 r1, .int .i64 r2, .int .i64 v] 41) := ⟨_, rfl⟩
    rw [← hW, ← hb0]
    have hX : Row W b0 #[.int .i64 op, .int .i64 rd, .int .i64 r1, .int .i64 r2, .int .i64 v] 41 := by rw [hW]; exact Row.new_at _ _ _ hb0
    have HG := Lib.hid (show Grows w W by rw [hW]; exact (Grows.refl _).alloc _)
    clear hW hb0
    have x0 : World.cell? W ⟨b0, 0, none⟩ = some (.int .i64 op) := hX.cell 0
    have x1 : World.cell? W ⟨b0, 1, none⟩ = some (.int .i64 rd) := hX.cell 1
    have x2 : World.cell? W ⟨b0, 2, none⟩ = some (.int .i64 r1) := hX.cell 2
    have x3 : World.cell? W ⟨b0, 3, none⟩ = some (.int .i64 r2) := hX.cell 3
    have x4 : World.cell? W ⟨b0, 4, none⟩ = some (.int .i64 v) := hX.cell 4
    have lx := hX.lt
    go_wp2_with fail
    refine (hsh _).mono ?_
    rintro _ w1 ⟨rfl, g1, rfl⟩
    go_wp2_with fail
    go_ret
    exact ⟨rfl, HG.out.grow _⟩
end Go.Proofs.YtjbgamifkgeodaaDoor
