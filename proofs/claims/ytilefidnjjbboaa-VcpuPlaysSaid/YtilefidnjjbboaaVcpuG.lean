/- What the functions of the package vcpu compute: Load. -/
import Derived.Test.YtilefidnjjbboaaVcpuF
import Derived.Deep.RegionHeld3
namespace Go.Proofs.Ytilefidnjjbboaa
open Go Go.RowKit
set_option linter.unusedSimpArgs false
set_option linter.unusedVariables false
/-- The control registers behind a load. -/
def loadR (r u : Nat → Int) (j : Nat) : Int := if j < 11 then u (18 + j) else r j
theorem file_congr {w : World} {b : Nat} {r r' : Nat → Int} (h : File w b r) (e : ∀ j, j < 12 → r j = r' j) : File w b r' := by
  have : fileA r = fileA r' := by unfold fileA; rw [e 0 (by omega), e 1 (by omega), e 2 (by omega), e 3 (by omega), e 4 (by omega), e 5 (by omega), e 6 (by omega), e 7 (by omega), e 8 (by omega), e 9 (by omega), e 10 (by omega), e 11 (by omega)]
  unfold File at *; rw [← this]; exact h
theorem turns_chg {b : Nat} {w w' : World} (h : Turns b w w') : Chg [b] w w' := ⟨h.1, h.2.1, h.2.2.1, h.2.2.2.1, fun k hk hn => h.2.2.2.2 k hk (by simpa using hn)⟩
theorem build_reg (a b : Int) (w : World) : (Instr.build 43 #[(1, .int .u64 a), (2, .int .i64 b)]).run Try.prog w = .ok (.agg (regV (fun _ => 0) a b).toArray) w := by kernel_rfl
theorem regV_copied (u x : Nat → Int) (pc m : Int) : ((numA 16 u).toList ++ (regV x pc m).toArray.toList.drop 16).toArray = (regV u pc m).toArray := by rfl
theorem load_step {w wr w3 : World} {vb fb b3 b6 : Nat} {g ix s co : Int} {R : List Value} {t t' u : Nat → Int} {C : Array Value} (hV : VcAt wr vb fb g ix s co R t) (hr3 : Row wr b3 (numA 30 u) 56) (hr6 : Row wr b6 C 43) (hc : Chg [vb, fb] w wr) (hF : File w3 fb t') (hT : Turns fb wr w3) (h3 : fb < b3) (h6 : b3 < b6) :
    VcAt w3 vb fb g ix s co R t' ∧ Row w3 b3 (numA 30 u) 56 ∧ Row w3 b6 C 43 ∧ Chg [vb, fb] w w3 :=
  ⟨⟨hV.row.chg (turns_chg hT) (by simp; exact vf_ne hV), hF, hV.reg⟩, hr3.chg (turns_chg hT) (by simp; omega), hr6.chg (turns_chg hT) (by simp; omega), hc.trans ((turns_chg hT).weaken (by simp))⟩
set_option maxRecDepth 100000 in
set_option maxHeartbeats 4000000 in
theorem load_ok {w : World} {vb fb : Nat} {g ix s co : Int} {R : List Value} {r : Nat → Int} (h : VcAt w vb fb g ix s co R r) (hs : s ≠ 2) (u : Nat → Int) {q : Int} (hq : bits .and .u64 (u 17) 1 = q) (hq2 : q = 0 ∨ q = 1) :
    Calls Try.prog 23 #[.pointer (some ⟨vb, 0, none⟩), .agg (numA 30 u)] w fun e w' => e = .returned (.int .i64 0) ∧ VcAt w' vb fb g ix s co (regV (updR u 0 0) (u 16) q) (loadR r u) ∧ Chg [vb, fb] w w' := by
  have hq3 : IntKind.i64.wrap q = q := by rcases hq2 with rfl | rfl <;> decide
  have hq4 : bits .and .i64 q 1 = q := by rcases hq2 with rfl | rfl <;> decide
  have hq5 : wrap64 q = q := wrap64_small (by omega) (by omega)
  clear hq2
  go_enter Try.func23, Try.ntmps23
  go_wp2_with fail
  obtain ⟨W1, hW1⟩ : ∃ W1, W1 = w.alloc (Obj.cells (numA 30 u) 56) := ⟨_, rfl⟩
  obtain ⟨b3, hb3⟩ : ∃ b, b = w.heap.size := ⟨_, rfl⟩
  rw [← hW1, ← hb3]
  have hg1 : Grows w W1 := by rw [hW1]; exact (Grows.refl _).alloc _
  have hr3 : Row W1 b3 (numA 30 u) 56 := by rw [hW1]; exact Row.new_at _ _ _ hb3
  have hv1 := h.grows hg1
  have HB := Lib.hid (show w.heap.size ≤ b3 ∧ vb < b3 ∧ fb < b3 by
    have h1 := h.row.lt
    have h2 := Row.lt (show Row w fb (fileA r) 110 from h.file)
    omega)
  have hst := still_ok hv1
  have hs' := hs
  rw [if_neg hs] at hst
  clear hs
  have k16 : W1.cell? ⟨b3, 16, none⟩ = some (.int .u64 (u 16)) := by rw [hr3.cell, numA_get u (by omega)]
  have k17 : W1.cell? ⟨b3, 17, none⟩ = some (.int .u64 (u 17)) := by rw [hr3.cell, numA_get u (by omega)]
  have HIR := Lib.hid (show (Try.prog.info? 43).map (·.size) = some (regV (fun _ => 0) (u 16) q).toArray.size by kernel_rfl)
  have HSR := Lib.hid (show zReg.size = (regV (fun _ => 0) (u 16) q).toArray.size by rfl)
  have HOR := Lib.hid (show (regV (fun _ => 0) (u 16) q).toArray.all (·.oneCell') = true by exact regL_one (regV_ok _ _ _))
  have HZ := Lib.hid (Row.new W1 zReg 43)
  obtain ⟨W3, hW3⟩ : ∃ W3, W3 = (W1.alloc (Obj.cells zReg 43)).setRow W1.heap.size (regV (fun _ => 0) (u 16) q).toArray := ⟨_, rfl⟩
  have HW3 := Lib.hid hW3.symm
  obtain ⟨b6, hb6⟩ : ∃ b, b = W1.heap.size := ⟨_, rfl⟩
  have hg3 : Grows W1 W3 := by rw [hW3]; exact grows_setRow ((Grows.refl _).alloc _) (Nat.le_refl _) _
  have hr63 : Row W3 b6 (regV (fun _ => 0) (u 16) q).toArray 43 := by rw [hW3, hb6]; exact row_setRow HZ.out (regV (fun _ => 0) (u 16) q).toArray
  have hr33 := hr3.grows hg3
  have hV3 := hv1.grows hg3
  have hl3 := hr3.lt
  have HB6 := Lib.hid (show b3 < b6 by omega)
  have HBB := Lib.hid hb6
  have hg3 := hg1.trans hg3
  have HG1 := Lib.hid hg1
  clear hW1 hb3 hg1 hr3 hv1  hW3 hb6 hl3 h
  refine (hst).mono ?_
  rintro _ _ ⟨rfl, hw⟩
  rw [hw]
  clear hw
  clear hst
  go_wp2_with (first
    | (refine wpList_store_row (by rfl) 43 _ _ (by rfl) W1.heap.size (regV (fun _ => 0) (u 16) q).toArray (by rfl) (by rfl) 43 _ (by exact HZ.out) HIR.out HSR.out HOR.out ?_; rw [HW3.out]))
  rw [← HBB.out]
  clear HBB HZ HW3 HIR HSR HOR k16 k17
  obtain ⟨V, hV⟩ : ∃ V, V = World.drew W3 := ⟨_, rfl⟩
  have hgV : Grows W3 V := by rw [hV]; exact (Grows.refl _).drew
  refine wp_region_still_tail 3 (by kernel_rfl) (by kernel_rfl) ?_
  simp only [List.take_succ_cons, List.take_zero, List.drop_succ_cons, List.drop_zero]
  change wpStill _ _ (World.drew W3) _ _ _
  rw [← hV]
  have HV := Lib.hid hV
  clear hV
  have hr3V := hr33.grows hgV
  have hr6V := hr63.grows hgV
  have hVV := hV3.grows hgV
  have hgV := hg3.trans hgV
  have hcp := run_copy_num (P := Try.prog) (w := V) 96 96 3 29 Try.underlying96 size_u64 (q := b6) (m := 16) (b := b3) (dLen := 16) (dCap := 16) (sLen := 16) (sCap := 30) hr6V u rfl (fun j hj => by rw [hr3V.cell, numA_get u (by omega)]) (by show 16 ≤ 18; omega)
  rw [regV_copied] at hcp
  obtain ⟨W4, hW4⟩ : ∃ W4, W4 = V.setRow b6 (regV u (u 16) q).toArray := ⟨_, rfl⟩
  rw [← hW4] at hcp
  have hc4 : Chg [b6] V W4 := by rw [hW4]; exact (Chg.refl _ _).setRow (Or.inl (by simp)) _
  have hr64 : Row W4 b6 (regV u (u 16) q).toArray 43 := by rw [hW4]; exact row_setRow hr6V _
  have hb := HB.out
  have hb6 := HB6.out
  have hr34 := hr3V.chg hc4 (by simp; omega)
  have hV4 := hVV.chg hc4 (by simp; omega)
  have hg4 := hc4.to_grows hgV (by simp; omega)
  have HR64 := Lib.hid hr64
  have HR34 := Lib.hid hr34
  have HV4 := Lib.hid hV4
  have HG4 := Lib.hid hg4
  clear hW4 hc4 hr3V hr6V hVV hgV hr64 hr34 hV4 hg4 hr33 hr63 hV3 hg3 hb hb6
  repeat still_step
  refine wpStill_nil ?_
  change wpList _ _ _ _ _ (World.drew W3)
  rw [← (HV).out]
  go_wp2_with fail
  clear HV hcp
  go_loopw [24] (fun i wr => (∃ (k : Nat) (t : Nat → Int), k ≤ 12 ∧ i = .int .i64 k ∧ VcAt wr vb fb g ix s co R t ∧ (∀ j, j < 12 → t j = if j < k ∧ j < 11 then u (18 + j) else r j)) ∧ Row wr b3 (numA 30 u) 56 ∧ Row wr b6 (regV u (u 16) q).toArray 43 ∧ Chg [vb, fb] w wr) (fun i _ => (12 - intOf i).toNat)
  case atStart =>
    exact ⟨⟨0, _, by omega, rfl, HV4.out, fun j hj => by rw [if_neg (by omega)]⟩, HR34.out, HR64.out, Chg.of_grows HG4.out⟩
  case round =>
    obtain ⟨⟨k, t, hk, rfl, hV, ht⟩, hr3, hr6, hc⟩ := hrel
    by_cases hlt : k < 12
    · by_cases h11 : k = 11
      · subst h11
        have HH := Lib.hid (And.intro hV (And.intro ht (And.intro hr3 (And.intro hr6 hc))))
        clear hV ht hr3 hr6 hc
        go_wp2_with fail
        obtain ⟨hV, ht, hr3, hr6, hc⟩ := HH.out
        exact ⟨⟨⟨12, t, by omega, by simp, hV, fun j hj => by rw [ht j hj]; by_cases e : j < 11; rw [if_pos ⟨e, e⟩, if_pos ⟨by omega, e⟩]; rw [if_neg (by omega), if_neg (by omega)]⟩, hr3, hr6, hc⟩, by simp [intOf]⟩
      · have hd : ((k : Int) != 11) = true := by simp; omega
        have c3 : wr.cell? ⟨b3, 18 + k, none⟩ = some (.int .u64 (u (18 + k))) := by rw [hr3.cell, numA_get u (by omega)]
        obtain ⟨k0, k2, k3, k22⟩ := hV.cells
        have e18 : wrap64 (18 + (k : Int)) = 18 + (k : Int) := wrap64_small (by omega) (by omega)
        have hlt30 : 18 + (k : Int) < 30 := by omega
        have e18' : IntKind.i64.wrap (18 + (k : Int)) = 18 + (k : Int) := by rw [IntKind.wrap_i64]; omega
        have hge0 : 0 ≤ 18 + (k : Int) := by omega
        have htn : (18 + (k : Int)).toNat = 18 + k := by omega
        have hf : File wr fb t := hV.file
        have HH := Lib.hid (And.intro hV (And.intro ht (And.intro hr3 (And.intro hr6 hc))))
        have hl3 := hr3.lt
        have hlv := hV.row.lt
        have hlf := hf.lt
        have HF := Lib.hid hf
        clear hV ht hr3 hr6 hc k0 k2 k3 hf
        go_wp2_with fail
        go_region_held3 (fun w' => w'.cell? ⟨vb, 22, none⟩ = some (.pointer (some ⟨fb, 0, none⟩)) ∧ w'.cell? ⟨b3, 18 + k, none⟩ = some (.int .u64 (u (18 + k)))) (first
          | exact ⟨k22, c3⟩
          | exact ⟨q22, q3⟩)
          (first
          | (go_at_call 37; refine (set_any (HF.out.grows ((Grows.refl _).drew)) hlt _).mono ?_; rintro _ w3 ⟨rfl, hF3, hT3⟩
             obtain ⟨hV, ht, hr3, hr6, hc⟩ := HH.out
             obtain ⟨hV, hr3, hr6, hc⟩ := load_step hV hr3 hr6 hc hF3 (Turns_trans (Turns_grows ((Grows.refl _).drew)) hT3) HB.out.2.2 HB6.out
             have q3 : w3.cell? ⟨b3, 18 + k, none⟩ = some (.int .u64 (u (18 + k))) := by rw [hr3.cell, numA_get u (by omega)]
             obtain ⟨_, _, _, q22⟩ := hV.cells
             have HHH := Lib.hid (And.intro hV (And.intro ht (And.intro hr3 (And.intro hr6 hc))))
             clear hV ht hr3 hr6 hc hF3 hT3))
        go_wp2_with fail
        obtain ⟨hV, ht, hr3, hr6, hc⟩ := HHH.out
        refine ⟨⟨⟨k + 1, _, by omega, by simp, hV, fun j hj => ?_⟩, hr3, hr6, hc⟩, by simp [intOf]; omega⟩
        unfold updR
        by_cases e : j = k
        · rw [if_pos e, if_pos ⟨by omega, by omega⟩, e]
        · rw [if_neg e, ht j hj]
          by_cases e2 : j < k ∧ j < 11
          · rw [if_pos e2, if_pos ⟨by omega, e2.2⟩]
          · rw [if_neg e2, if_neg (by omega)]
    · have : k = 12 := by omega
      subst this
      have hF : File wr fb (loadR r u) := file_congr hV.file (fun j hj => by rw [ht j hj]; unfold loadR; by_cases e : j < 11; rw [if_pos ⟨hj, e⟩, if_pos e]; rw [if_neg (by omega), if_neg e])
      have hV : VcAt wr vb fb g ix s co R (loadR r u) := ⟨hV.row, hF, hV.reg⟩
      have hsr := setregs_ok hV hs' (.pointer none) u (u 16) q
      rw [hq4] at hsr
      have HR6 := Lib.hid hr6
      have HIR := Lib.hid (show (Try.prog.info? 43).map (·.size) = some (regV u (u 16) q).toArray.size by kernel_rfl)
      have HC := Lib.hid hc
      clear hF hV ht hr3 hr6 hc
      go_wp2_with (first
        | (refine wpList_load_row (by rfl) 43 _ (by rfl) b6 (by rfl) 43 (regV u (u 16) q).toArray (0, 0) _ (by exact HR6.out) Try.underlying43 rfl HIR.out ?_))
      refine hsr.mono ?_
      rintro _ w4 ⟨rfl, hV4, hC4⟩
      have HV4 := Lib.hid hV4
      have HC4 := Lib.hid (HC.out.trans (hC4.weaken (T := [vb, fb]) (by simp)))
      clear hsr hV4 hC4
      go_wp2_with fail
      go_ret
      exact ⟨rfl, HV4.out, HC4.out⟩
theorem load_bad {w : World} {vb fb : Nat} {g ix co : Int} {R : List Value} {r : Nat → Int} (h : VcAt w vb fb g ix 2 co R r) (u : Nat → Int) :
    Calls Try.prog 23 #[.pointer (some ⟨vb, 0, none⟩), .agg (numA 30 u)] w fun e w' => e = .returned (.int .i64 21) ∧ Grows w w' := by
  go_enter Try.func23, Try.ntmps23
  go_wp2_with fail
  have hg1 : Grows w (w.alloc (Obj.cells (numA 30 u) 56)) := (Grows.refl _).alloc _
  have hst := still_ok (h.grows hg1)
  have HG := Lib.hid hg1
  clear hg1 h
  refine (hst).mono ?_
  rintro _ _ ⟨rfl, hw⟩
  rw [hw]
  clear hw
  clear hst
  go_wp2_with fail
  go_ret
  exact ⟨rfl, HG.out⟩
end Go.Proofs.Ytilefidnjjbboaa
