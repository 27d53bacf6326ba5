/- Chapter 6: both: a memory with some entries. -/
import Derived.Test.YtnkmelhggnelmaaDoorWk
import Derived.Test.YtnkmelhggnelmaaDoorRMem
import Derived.Test.YtnkmelhggnelmaaDoorEntR
import Derived.Deep.DeepCutAuto
namespace Go.Proofs.YtnkmelhggnelmaaDoor
open Go Go.RowKit
set_option linter.unusedSimpArgs false
set_option linter.unusedVariables false
set_option maxRecDepth 100000
/-- An entry that stands somewhere. -/
structure SlotD where
  f : Int
  p : Int
  a : Bool
  b : Bool
  c : Bool
  d : Bool
  e : Bool
  g : Bool
  h : Bool
  n : Int
  raw : Nat
def slotE (D : SlotD) : Int := packE D.a D.b D.c D.d D.e D.g D.h D.n
def slotV (D : SlotD) : Nat := if slotE D = 0 ∧ D.raw = 0 then (packZ D.a D.b D.c D.d D.e D.g D.h D.n).toNat else D.raw
def slotA (D : SlotD) : Nat := (D.f % 16).toNat * 256 + 8 * (D.p % 32).toNat
def bothB (D : Nat → SlotD) : Nat → Nat → Nat
  | 0 => fun _ => 0
  | i + 1 => putB (bothB D i) (slotA (D i)) (leB (slotV (D i)) 8)
def SlotAt (w : World) (b o : Nat) (D : SlotD) : Prop :=
  w.cell? ⟨b, o, none⟩ = some (.int .i64 D.f) ∧ w.cell? ⟨b, o + 1, none⟩ = some (.int .i64 D.p) ∧ w.cell? ⟨b, o + 2, none⟩ = some (.bool D.a) ∧ w.cell? ⟨b, o + 3, none⟩ = some (.bool D.b) ∧ w.cell? ⟨b, o + 4, none⟩ = some (.bool D.c) ∧ w.cell? ⟨b, o + 5, none⟩ = some (.bool D.d) ∧ w.cell? ⟨b, o + 6, none⟩ = some (.bool D.e) ∧ w.cell? ⟨b, o + 7, none⟩ = some (.bool D.g) ∧ w.cell? ⟨b, o + 8, none⟩ = some (.bool D.h) ∧ w.cell? ⟨b, o + 9, none⟩ = some (.int .i64 D.n) ∧ w.cell? ⟨b, o + 10, none⟩ = some (.int .u64 D.raw)
def SlotsIn (w : World) (A : Option Addr) (n : Nat) (D : Nat → SlotD) : Prop :=
  ∀ i, i < n → ∃ b o, A = some ⟨b, o, none⟩ ∧ b < w.heap.size ∧ (D i).raw < 18446744073709551616 ∧ SlotAt w b (o + i * 11) (D i)
theorem packZ_nat (a b c d e f g : Bool) (n : Int) : 0 ≤ packZ a b c d e f g n ∧ packZ a b c d e f g n < 18446744073709551616 := by
  unfold packZ
  split
  · rename_i h
    have := rightB_frame h
    have h0 : 0 ≤ flagsN a b c d e f g ∧ flagsN a b c d e f g < 1024 := by
      cases a <;> cases b <;> cases c <;> cases d <;> cases e <;> cases f <;> cases g <;> decide
    omega
  · omega
set_option maxHeartbeats 8000000 in
theorem both_any {W : World} (hT : Widths W) (A : Option Addr) (n c : Nat) (D : Nat → SlotD) (hn : n ≤ 9223372036854775807) (hD : SlotsIn W A n D) :
    Calls Tryd.prog 5 #[.slice A n c] W fun r w' => ∃ p q rp, r = .returned (.tuple #[.pointer (some ⟨p, 0, none⟩), .pointer (some ⟨rp, 0, none⟩), .bool true]) ∧ Mem w' p q 4096 (bothB D n) ∧ Grows W w' := by
  have hm := fun w => new_ok 16 (by decide) (by decide) w
  have hr := fun w => rnew_ok 16 (by decide) (by decide) w
  go_enter Tryd.func5, Tryd.ntmps5
  go_wp2_with fail
  refine (hm _).mono ?_
  rintro _ w1 ⟨p, q, rfl, hM1, hg1, hp, hq, hqp⟩
  go_wp2_with fail
  refine (hr _).mono ?_
  rintro _ w2 ⟨p', q', rfl, hR2, hg2, hp', hq', hqp'⟩
  have hM2 := hM1.grows hg2
  have HNE := Lib.hid (show p ≠ q' ∧ q ≠ q' ∧ p' ≠ q ∧ q' ≠ q by have := hM1.plt; have := hM1.qlt; omega)
  have HQ := Lib.hid (show W.heap.size ≤ q ∧ W.heap.size ≤ q' by have := hg1.size; omega)
  have hg := hg1.trans hg2
  have HT := Lib.hid hT
  clear hg1 hg2 hp hq hp' hq' hqp hqp' hM1 hm hr hT
  go_wp2_with fail
  go_loopw [9] (fun i wr => ∃ k : Nat, k ≤ n ∧ i = .int .i64 k ∧ Mem wr p q 4096 (bothB D k) ∧ RMem wr p' q' 4096 (bothB D k) ∧ Grows W wr) (fun i _ => (n - intOf i).toNat)
  case atStart => exact ⟨0, by omega, rfl, hM2, hR2, hg⟩
  case round =>
    obtain ⟨k, hk, rfl, hMr, hRr, hGr⟩ := hrel
    clear hM2 hR2 hg
    by_cases hlt : k < n
    · obtain ⟨b, o, rfl, hb, hraw, s0, s1, s2, s3, s4, s5, s6, s7, s8, s9, s10⟩ := hD k hlt
      have c0 := (hGr.cell (o := o + k * 11) hb).trans s0
      have c1 := (hGr.cell (o := o + k * 11 + 1) hb).trans s1
      have c2 := (hGr.cell (o := o + k * 11 + 2) hb).trans s2
      have c3 := (hGr.cell (o := o + k * 11 + 3) hb).trans s3
      have c4 := (hGr.cell (o := o + k * 11 + 4) hb).trans s4
      have c5 := (hGr.cell (o := o + k * 11 + 5) hb).trans s5
      have c6 := (hGr.cell (o := o + k * 11 + 6) hb).trans s6
      have c7 := (hGr.cell (o := o + k * 11 + 7) hb).trans s7
      have c8 := (hGr.cell (o := o + k * 11 + 8) hb).trans s8
      have c9 := (hGr.cell (o := o + k * 11 + 9) hb).trans s9
      have c10 := (hGr.cell (o := o + k * 11 + 10) hb).trans s10
      have HC := Lib.hid (⟨s0, s1, s10⟩ : W.cell? ⟨b, o + k * 11, none⟩ = some (.int .i64 (D k).f) ∧ W.cell? ⟨b, o + k * 11 + 1, none⟩ = some (.int .i64 (D k).p) ∧ W.cell? ⟨b, o + k * 11 + 10, none⟩ = some (.int .u64 (D k).raw))
      have HMr := Lib.hid hMr
      have HRr := Lib.hid hRr
      have HGr := Lib.hid hGr
      have hpk := fun w => rpack_any (D k).a (D k).b (D k).c (D k).d (D k).e (D k).g (D k).h (D k).n w
      have hzz := packZ_nat (D k).a (D k).b (D k).c (D k).d (D k).e (D k).g (D k).h (D k).n
      obtain ⟨pz, hpz⟩ : ∃ pz : Nat, (pz : Int) = packZ (D k).a (D k).b (D k).c (D k).d (D k).e (D k).g (D k).h (D k).n := ⟨(packZ (D k).a (D k).b (D k).c (D k).d (D k).e (D k).g (D k).h (D k).n).toNat, by omega⟩
      obtain ⟨pe, hpe⟩ : ∃ pe : Int, pe = packE (D k).a (D k).b (D k).c (D k).d (D k).e (D k).g (D k).h (D k).n := ⟨_, rfl⟩
      rw [← hpz, ← hpe] at hpk
      have HV := Lib.hid (show slotV (D k) = if pe = 0 ∧ (D k).raw = 0 then pz else (D k).raw by unfold slotV slotE; rw [← hpz, ← hpe]; simp)
      have HVL := Lib.hid (show pz < 18446744073709551616 ∧ (D k).raw < 18446744073709551616 by omega)
      clear hMr hRr hGr hD s0 s1 s2 s3 s4 s5 s6 s7 s8 s9 s10 hzz hpz hpe hraw
      go_wp2_with fail
      refine (hpk _).mono ?_
      rintro _ w3 ⟨rfl, hg3⟩
      have c10' := (hg3.cell (o := o + k * 11 + 10) (by have := HGr.out.size; omega)).trans c10
      have HM3 := Lib.hid (HMr.out.grows hg3)
      have HR3 := Lib.hid (HRr.out.grows hg3)
      have HG3 := Lib.hid (HGr.out.trans hg3)
      clear hpk c0 c1 c2 c3 c4 c5 c6 c7 c8 c9 c10 HMr HRr HGr hg3
      have m1 := and_mask_i64 (v := (D k).f) (n := 4) (by decide)
      have m2 := and_mask_i64 (v := (D k).p) (n := 5) (by decide)
      have HSA := Lib.hid (show slotA (D k) = ((D k).f % 16).toNat * 256 + 8 * ((D k).p % 32).toNat from rfl)
      have hb1 := Int.emod_nonneg (D k).f (show (16 : Int) ≠ 0 by decide)
      have hb2 := Int.emod_nonneg (D k).p (show (32 : Int) ≠ 0 by decide)
      have hb3 := Int.emod_lt_of_pos (D k).f (show (0 : Int) < 16 by decide)
      have hb4 := Int.emod_lt_of_pos (D k).p (show (0 : Int) < 32 by decide)
      obtain ⟨fm, hfm⟩ : ∃ fm : Nat, (fm : Int) = (D k).f % 16 := ⟨((D k).f % 16).toNat, by omega⟩
      obtain ⟨pm, hpm⟩ : ∃ pm : Nat, (pm : Int) = (D k).p % 32 := ⟨((D k).p % 32).toNat, by omega⟩
      rw [show (2 : Int) ^ 4 - 1 = 15 by decide, show (2 : Int) ^ 4 = 16 by decide, ← hfm] at m1
      rw [show (2 : Int) ^ 5 - 1 = 31 by decide, show (2 : Int) ^ 5 = 32 by decide, ← hpm] at m2
      have HSA2 := Lib.hid (show slotA (D k) = fm * 256 + 8 * pm by rw [HSA.out, ← hfm, ← hpm]; simp)
      have HFP := Lib.hid (show fm < 16 ∧ pm < 32 by omega)
      clear hb1 hb2 hb3 hb4 hfm hpm HSA
      have HC3 := Lib.hid (⟨(HG3.out.cell hb).trans HC.out.1, (HG3.out.cell hb).trans HC.out.2.1⟩ : w3.cell? ⟨b, o + k * 11, none⟩ = some (.int .i64 (D k).f) ∧ w3.cell? ⟨b, o + k * 11 + 1, none⟩ = some (.int .i64 (D k).p))
      generalize (D k).raw = rw0 at *
      generalize (D k).f = ff at *
      generalize (D k).p = pp at *
      obtain ⟨ad, had⟩ : ∃ ad, ad = fm * 256 + 8 * pm := ⟨_, rfl⟩
      have e1 : IntKind.u64.wrap (fm : Int) = fm := wrap_u64_small (by omega) (by have := HFP.out; omega)
      have e2 : IntKind.u64.wrap (pm : Int) = pm := wrap_u64_small (by omega) (by have := HFP.out; omega)
      have e3 : IntKind.u64.wrap ((fm : Int) * 256) = (fm : Int) * 256 := wrap_u64_small (by omega) (by have := HFP.out; omega)
      have e4 : IntKind.u64.wrap (8 * (pm : Int)) = 8 * (pm : Int) := wrap_u64_small (by omega) (by have := HFP.out; omega)
      have e5 : IntKind.u64.wrap ((fm : Int) * 256 + 8 * (pm : Int)) = (ad : Int) := by rw [wrap_u64_small (by omega) (by have := HFP.out; omega)]; omega
      have HAD := Lib.hid (show ad % 8 = 0 ∧ ad + 8 ≤ 4096 ∧ ad < 18446744073709551616 by have := HFP.out; omega)
      rw [← had] at HSA2
      have hst := fun (V : Nat) w (h1 : Widths w) (h2 : Mem w p q 4096 (bothB D k)) => Store_ok h1 h2 ad 8 V (by decide) HAD.out.1 HAD.out.2.1
      have hrst := fun (V : Nat) w (h2 : RMem w p' q' 4096 (bothB D k)) => rStore_ok h2 ad 8 V (by decide) HAD.out.1 HAD.out.2.1
      have HST := Lib.hid hst
      have HRST := Lib.hid hrst
      clear had hst hrst
      by_cases hpe : pe = 0
      · by_cases hr0 : rw0 = 0
        · have q1 : (pe == 0) = true := by simp [hpe]
          have q2 : ((rw0 : Int) == 0) = true := by simp [hr0]
          have HVV := Lib.hid (show slotV (D k) = pz by rw [HV.out, if_pos ⟨hpe, hr0⟩])
          subst hpe
          subst hr0
          clear HV q1 q2
          go_upto_region 11 with fail
          clear c10'
          have d0 := HC3.out.1
          have d1 := HC3.out.2
          go_region
          all_goals
            clear d0 d1 m1 m2 e1 e2 e3 e4 e5
            go_wp2_with fail
            refine (HST.out pz _ ((HT.out.grows HG3.out).grows ((Grows.refl _).drew)) (HM3.out.grows ((Grows.refl _).drew))).mono ?_
            rintro _ w4 ⟨rfl, hM4, hC4⟩
            have hC34 := (Chg.of_grows (S := [q]) ((Grows.refl w3).drew)).trans hC4
            have HR4 := Lib.hid (HR3.out.chg hC34 (by simp; exact HNE.out.2.2.1) (by simp; exact HNE.out.2.2.2))
            have HG4 := Lib.hid (hC34.to_grows HG3.out (fun x hx => by simp at hx; subst hx; exact HQ.out.1))
            have HM4 := Lib.hid hM4
            clear hM4 hC4 hC34 HM3 HR3 HG3 HST
            go_wp2_with fail
            refine (HRST.out pz _ HR4.out).mono ?_
            rintro _ w5 ⟨rfl, hR5, hC5⟩
            have HM5 := Lib.hid (HM4.out.chg hC5 (by simp; exact HNE.out.1) (by simp; exact HNE.out.2.1))
            have HG5 := Lib.hid (hC5.to_grows HG4.out (fun x hx => by simp at hx; subst hx; exact HQ.out.2))
            have HR5 := Lib.hid hR5
            clear hR5 hC5 HM4 HR4 HG4 HRST
            go_wp2_with fail
            exact ⟨⟨k + 1, by omega, by simp, by rw [show bothB D (k + 1) = putB (bothB D k) (slotA (D k)) (leB (slotV (D k)) 8) from rfl, HSA2.out, HVV.out]; exact HM5.out, by rw [show bothB D (k + 1) = putB (bothB D k) (slotA (D k)) (leB (slotV (D k)) 8) from rfl, HSA2.out, HVV.out]; exact HR5.out, HG5.out⟩, by simp [intOf]; omega⟩
        · have q2 : ((rw0 : Int) == 0) = false := by simp; omega
          have HVV := Lib.hid (show slotV (D k) = rw0 by rw [HV.out, if_neg (fun h => hr0 h.2)])
          subst hpe
          clear HV hr0
          go_upto_region 11 with fail
          clear c10'
          have d0 := HC3.out.1
          have d1 := HC3.out.2
          go_region
          all_goals
            clear d0 d1 m1 m2 e1 e2 e3 e4 e5
            go_wp2_with fail
            refine (HST.out rw0 _ ((HT.out.grows HG3.out).grows ((Grows.refl _).drew)) (HM3.out.grows ((Grows.refl _).drew))).mono ?_
            rintro _ w4 ⟨rfl, hM4, hC4⟩
            have hC34 := (Chg.of_grows (S := [q]) ((Grows.refl w3).drew)).trans hC4
            have HR4 := Lib.hid (HR3.out.chg hC34 (by simp; exact HNE.out.2.2.1) (by simp; exact HNE.out.2.2.2))
            have HG4 := Lib.hid (hC34.to_grows HG3.out (fun x hx => by simp at hx; subst hx; exact HQ.out.1))
            have HM4 := Lib.hid hM4
            clear hM4 hC4 hC34 HM3 HR3 HG3 HST
            go_wp2_with fail
            refine (HRST.out rw0 _ HR4.out).mono ?_
            rintro _ w5 ⟨rfl, hR5, hC5⟩
            have HM5 := Lib.hid (HM4.out.chg hC5 (by simp; exact HNE.out.1) (by simp; exact HNE.out.2.1))
            have HG5 := Lib.hid (hC5.to_grows HG4.out (fun x hx => by simp at hx; subst hx; exact HQ.out.2))
            have HR5 := Lib.hid hR5
            clear hR5 hC5 HM4 HR4 HG4 HRST
            go_wp2_with fail
            exact ⟨⟨k + 1, by omega, by simp, by rw [show bothB D (k + 1) = putB (bothB D k) (slotA (D k)) (leB (slotV (D k)) 8) from rfl, HSA2.out, HVV.out]; exact HM5.out, by rw [show bothB D (k + 1) = putB (bothB D k) (slotA (D k)) (leB (slotV (D k)) 8) from rfl, HSA2.out, HVV.out]; exact HR5.out, HG5.out⟩, by simp [intOf]; omega⟩
      · have q1 : (pe == 0) = false := by simp [hpe]
        have HVV := Lib.hid (show slotV (D k) = rw0 by rw [HV.out, if_neg (fun h => hpe h.1)])
        clear HV hpe
        go_upto_region 11 with fail
        clear c10'
        have d0 := HC3.out.1
        have d1 := HC3.out.2
        go_region
        all_goals
          clear d0 d1 m1 m2 e1 e2 e3 e4 e5
          go_wp2_with fail
          refine (HST.out rw0 _ ((HT.out.grows HG3.out).grows ((Grows.refl _).drew)) (HM3.out.grows ((Grows.refl _).drew))).mono ?_
          rintro _ w4 ⟨rfl, hM4, hC4⟩
          have hC34 := (Chg.of_grows (S := [q]) ((Grows.refl w3).drew)).trans hC4
          have HR4 := Lib.hid (HR3.out.chg hC34 (by simp; exact HNE.out.2.2.1) (by simp; exact HNE.out.2.2.2))
          have HG4 := Lib.hid (hC34.to_grows HG3.out (fun x hx => by simp at hx; subst hx; exact HQ.out.1))
          have HM4 := Lib.hid hM4
          clear hM4 hC4 hC34 HM3 HR3 HG3 HST
          go_wp2_with fail
          refine (HRST.out rw0 _ HR4.out).mono ?_
          rintro _ w5 ⟨rfl, hR5, hC5⟩
          have HM5 := Lib.hid (HM4.out.chg hC5 (by simp; exact HNE.out.1) (by simp; exact HNE.out.2.1))
          have HG5 := Lib.hid (hC5.to_grows HG4.out (fun x hx => by simp at hx; subst hx; exact HQ.out.2))
          have HR5 := Lib.hid hR5
          clear hR5 hC5 HM4 HR4 HG4 HRST
          go_wp2_with fail
          exact ⟨⟨k + 1, by omega, by simp, by rw [show bothB D (k + 1) = putB (bothB D k) (slotA (D k)) (leB (slotV (D k)) 8) from rfl, HSA2.out, HVV.out]; exact HM5.out, by rw [show bothB D (k + 1) = putB (bothB D k) (slotA (D k)) (leB (slotV (D k)) 8) from rfl, HSA2.out, HVV.out]; exact HR5.out, HG5.out⟩, by simp [intOf]; omega⟩
    · obtain rfl : k = n := by omega
      have HMr := Lib.hid hMr
      have HGr := Lib.hid hGr
      clear hD hMr hRr hGr
      go_wp2_with fail
      exact bodyPost_ret (v := .tuple #[.pointer (some ⟨p, 0, none⟩), .pointer (some ⟨p', 0, none⟩), .bool true]) (by simp [results, Tryd.results5, go_sem]) rfl ⟨p, q, p', rfl, HMr.out, HGr.out⟩
end Go.Proofs.YtnkmelhggnelmaaDoor
