/- The package balloon: Settle. -/
import Derived.Test.YtlchlklbjocliaaDoorBaA
namespace Go.Proofs.YtlchlklbjocliaaDoor
open Go Go.RowKit
set_option linter.unusedSimpArgs false
set_option linter.unusedVariables false
set_option maxRecDepth 100000
theorem zero_bool' (w : World) : (zeroValue 4).run Tryd.prog w = .ok (.bool false) w := by
  have h : ∀ w, (zeroValue 4).run Tryd.prog w = .ok (.bool false) w := fun w => by kernel_rfl
  exact h w
theorem BaAt.look {w : World} {ba pm fp tb : Nat} {o pages : Int} {bv sv : Nat} {gvn tk : Int} {F : Int → Option Bool} (h : BaAt w ba pm fp tb o pages bv sv gvn tk F) {x : Int} (wx : wf64 x) :
    (Instr.lookup 98 (.map (some bv)) (.int .i64 x) false).run Tryd.prog w = .ok (.bool ((F x).getD false)) w :=
  h.wm.look Tryd.underlying3 Tryd.underlying4 Tryd.underlying98 (zero_bool' w) wx
theorem Settle_none {w : World} {ba pm fp tb : Nat} {o pages : Int} {bv sv : Nat} {gvn tk : Int} {F : Int → Option Bool} (h : BaAt w ba pm fp tb o pages bv sv gvn tk F) {x : Int} (wx : wf64 x) (hF : (F x).getD false = false) :
    Calls Tryd.prog 35 #[.pointer (some ⟨ba, 0, none⟩), .int .i64 x] w fun r w' => r = .returned (.int .i64 14) ∧ Grows w w' := by
  have hb : ∀ w, (binOp .eql 98 (.map (some bv)) (.map none)).run Tryd.prog w = .ok (.bool false) w := fun w => by kernel_rfl
  have lt := h.row.lt
  have c5 : w.cell? ⟨ba, 5, none⟩ = some (.map (some bv)) := h.row.cell 5
  have hl := h.look wx
  rw [hF] at hl
  clear h hF
  go_enter Tryd.func35, Tryd.ntmps35
  go_wp2_with fail
  go_ret
  exact ⟨rfl, Grows.refl _⟩
set_option maxHeartbeats 4000000 in
theorem Settle_ok {w : World} {ba pm fp tb o q N bt bw n first low : Nat} {pages : Int} {bv sv : Nat} {gvn tk : Int} {F : Int → Option Bool} {B T O : Nat → Nat} {quo : Nat → Int} (h : BaAt w ba pm fp tb (o : Int) pages bv sv gvn tk F) (hM : Mem w pm q N B) (hF : FrAt w fp bt bw n first T O quo low) (hnN : n ≤ N / 256) {f : Nat} (hfn : f < n) (hT : T f = 1) (hO : O f = o) (hff : first ≤ f) (hw : F (f : Int) = some true)
    (hd1 : ba ≠ fp ∧ ba ≠ bt ∧ ba ≠ bw ∧ ba ≠ q ∧ ba ≠ pm) (hd2 : bv ≠ fp ∧ bv ≠ bt ∧ bv ≠ bw ∧ bv ≠ q ∧ bv ≠ pm) (hd3 : pm ≠ fp ∧ pm ≠ bt ∧ pm ≠ bw ∧ q ≠ fp ∧ q ≠ bt ∧ q ≠ bw) :
    Calls Tryd.prog 35 #[.pointer (some ⟨ba, 0, none⟩), .int .i64 f] w fun r w' => r = .returned (.int .i64 0) ∧ FrAt w' fp bt bw n first (upF T f 0) O quo (min low f) ∧ Mem w' pm q N (putB B (f * 256) (List.replicate 256 0)) ∧ BaAt w' ba pm fp tb (o : Int) pages bv (sv - 1) gvn tk (bmDel F f) ∧ Chg [fp, bt, bw, q, bv] w w' := by
  have hb : ∀ w, (binOp .eql 98 (.map (some bv)) (.map none)).run Tryd.prog w = .ok (.bool false) w := fun w => by kernel_rfl
  have hn2 := hF.n2
  have hl := h.look (x := (f : Int)) (wf_of (by omega) (by omega))
  rw [hw] at hl
  simp only [Option.getD_some] at hl
  have how := Owner_some hF hfn (by omega)
  rw [hO, hT] at how
  have HCL := Lib.hid (fun W (h : Mem W pm q N B) => Clear_ok h f (by omega))
  have HFR := Lib.hid (fun W (h : FrAt W fp bt bw n first T O quo low) => Free_last h hfn hT hO hff)
  have HDL := Lib.hid (fun W (h : BaAt W ba pm fp tb (o : Int) pages bv sv gvn tk F) => h.wm.del Tryd.underlying3 Tryd.underlying98 (K := (f : Int)) (wf_of (by omega) (by omega)) 0)
  rw [hw] at HDL
  simp only [Option.isSome_some, if_true] at HDL
  have HH := Lib.hid h
  have HM := Lib.hid hM
  have HF := Lib.hid hF
  have lt := h.row.lt
  have c5 : w.cell? ⟨ba, 5, none⟩ = some (.map (some bv)) := h.row.cell 5
  have c1 : w.cell? ⟨ba, 1, none⟩ = some (.pointer (some ⟨fp, 0, none⟩)) := h.row.cell 1
  clear h hM hF hfn hT hO hff hw hn2 hnN
  go_enter Tryd.func35, Tryd.ntmps35
  go_wp2_with fail
  refine how.mono ?_
  rintro _ w1 ⟨rfl, hg1⟩
  have HH1 := Lib.hid (HH.out.chg (Chg.of_grows (S := []) hg1) (by simp) (by simp))
  have HM1 := Lib.hid (MemAt.grows HM.out hg1)
  have HF1 := Lib.hid (HF.out.grows hg1)
  have HC1 := Lib.hid (Chg.of_grows (S := [fp, bt, bw, q, bv]) hg1)
  clear how c5 c1 lt hl hg1 HH HM HF
  have lt := HH1.out.row.lt
  have c0 : w1.cell? ⟨ba, 0, none⟩ = some (.pointer (some ⟨pm, 0, none⟩)) := HH1.out.row.cell 0
  go_wp2_with fail
  refine (HCL.out w1 HM1.out).mono ?_
  rintro _ w2 ⟨rfl, hM2, hC2⟩
  have HH2 := Lib.hid (HH1.out.chg hC2 (by simp; omega) (by simp; omega))
  have HM2 := Lib.hid hM2
  have HF2 := Lib.hid (HF1.out.chg hC2 (by simp; omega))
  have HC2 := Lib.hid (HC1.out.trans (hC2.weaken (T := [fp, bt, bw, q, bv]) (fun k hk => Or.inl (by simp at hk ⊢; omega))))
  clear hM2 hC2 HH1 HM1 HF1 HC1 HCL c0 lt
  have lt := HH2.out.row.lt
  go_wp2_with fail
  have HSG := Lib.hid (fun (w' : World) (h : Row w' ba (baL pm fp tb (o : Int) pages bv gvn tk) 100) => (⟨h.cell 1, h.cell 3⟩ : w'.cell? ⟨ba, 1, none⟩ = some (.pointer (some ⟨fp, 0, none⟩)) ∧ w'.cell? ⟨ba, 3, none⟩ = some (.int .i64 o)))
  go_region_held3 (fun w' => w'.cell? ⟨ba, 1, none⟩ = some (.pointer (some ⟨fp, 0, none⟩)) ∧ w'.cell? ⟨ba, 3, none⟩ = some (.int .i64 o)) (first
    | with_reducible exact HSG.out _ ((HH2.out.row.grows ((Grows.refl _).drew)).chg HC3.out (by simp; omega))
    | with_reducible exact HSG.out _ (HH2.out.row.grows ((Grows.refl _).drew))) (first
    | (go_at_call 42; refine (HFR.out _ (HF2.out.grows ((Grows.refl _).drew))).mono ?_; rintro _ w3 ⟨rfl, hF3, hC3⟩
       have HF3 := Lib.hid hF3
       have HC3 := Lib.hid hC3
       clear hF3 hC3))
  all_goals
    have HH3 := Lib.hid ((HH2.out.chg (Chg.of_grows (S := []) ((Grows.refl w2).drew)) (by simp) (by simp)).chg HC3.out (by simp; omega) (by simp; omega))
    have HM3 := Lib.hid (MemAt.chg (MemAt.grows HM2.out ((Grows.refl w2).drew)) HC3.out (by simp; omega) (by simp; omega))
    have HC4 := Lib.hid ((HC2.out.drew).trans (HC3.out.weaken (T := [fp, bt, bw, q, bv]) (fun k hk => Or.inl (by simp at hk ⊢; omega))))
    clear HH2 HM2 HF2 HC2 HC3 HSG HFR lt
    obtain ⟨w4, hrun, hm4, hg4⟩ := HDL.out w3 HH3.out
    have hc4 : Chg [bv] w3 w4 := (Chg.refl _ _).grownBy hg4 (fun b hb => by injection hb with hb; subst hb; exact Or.inl (by simp))
    have HH4 := Lib.hid (⟨HH3.out.row.chg hc4 (by simp; exact HH3.out.ne), hm4, HH3.out.ne⟩ : BaAt w4 ba pm fp tb (o : Int) pages bv (sv - 1) gvn tk (bmDel F f))
    have HM4 := Lib.hid (MemAt.chg HM3.out hc4 (by simp; omega) (by simp; omega))
    have HF4 := Lib.hid (HF3.out.chg hc4 (by simp; omega))
    have HC5 := Lib.hid (HC4.out.trans (hc4.weaken (T := [fp, bt, bw, q, bv]) (fun k hk => Or.inl (by simp at hk ⊢; omega))))
    have lt := HH3.out.row.lt
    have c5 : w3.cell? ⟨ba, 5, none⟩ = some (.map (some bv)) := HH3.out.row.cell 5
    clear hm4 hg4 hc4 HH3 HM3 HF3 HC4 HDL
    go_wp2_with fail
    go_ret
    exact ⟨rfl, HF4.out, HM4.out, HH4.out, HC5.out⟩
end Go.Proofs.YtlchlklbjocliaaDoor
