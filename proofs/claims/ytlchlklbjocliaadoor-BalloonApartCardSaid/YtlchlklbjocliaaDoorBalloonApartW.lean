/- The walk of BalloonApart. -/
import Derived.Test.YtlchlklbjocliaaDoorMH
import Derived.Test.YtlchlklbjocliaaDoorMG
import Derived.Test.YtlchlklbjocliaaDoorMB
namespace Go.Proofs.YtlchlklbjocliaaDoor
open Go Go.RowKit
set_option linter.unusedSimpArgs false
set_option linter.unusedVariables false
set_option maxRecDepth 100000
section
variable {H : Type} {enc : TypeId × Value → H}
theorem num_at2 {W : World} {A : Option Addr} {m : Nat} {X : Nat → List Value} (hX : SliceIs2 enc Tryd.prog W [3] A m X) {i : Nat} (hi : i < m) :
    ∃ b o, A = some ⟨b, o, none⟩ ∧ b < W.heap.size ∧ ∃ x : Int, W.cell? ⟨b, o + i, none⟩ = some (.int .i64 x) := by
  obtain ⟨b, o, hA, hb, hL, hc⟩ := hX i hi
  obtain ⟨c0, cs0, e0, l0, hL⟩ := hL.cons
  obtain ⟨x, rfl, hx⟩ := l0.int Tryd.underlying3
  refine ⟨b, o, hA, hb, x, ?_⟩
  have := hc 0 (by decide)
  rw [e0] at this
  simpa using this
theorem and7' (x : Int) : ∃ q : Nat, bits .and .i64 x 7 = q ∧ q ≤ 7 := by
  have e : bits .and .i64 x 7 = x % 8 := and_mask_i64 (n := 3) (by omega)
  rw [e]
  exact ⟨(x % 8).toNat, by omega, by omega⟩
abbrev wRow (pm fp tb ba : Nat) : Array Value := #[.pointer (some ⟨pm, 0, none⟩), .pointer (some ⟨fp, 0, none⟩), .pointer (some ⟨tb, 0, none⟩), .pointer (some ⟨ba, 0, none⟩)]
/-- What stands between the calls. -/
structure ApAt (W w : World) (I J : Ids) (ba bv ja jv wb : Nat) (M : Int) (B T O : Nat → Nat) (G H : GS) : Prop where
  pair : PairAt w I J ba bv ja jv M B T O G H
  row : Row w wb (wRow I.pm I.fp I.tb ba) 89
  base : Grows W w
theorem ApAt.grows {W w w' : World} {I J : Ids} {ba bv ja jv wb : Nat} {M : Int} {B T O : Nat → Nat} {G H : GS} (h : ApAt W w I J ba bv ja jv wb M B T O G H) (hg : Grows w w') : ApAt W w' I J ba bv ja jv wb M B T O G H :=
  ⟨h.pair.grows hg, h.row.grows hg, h.base.trans hg⟩
theorem ApAt.weaken {W w : World} {I J : Ids} {ba bv ja jv wb : Nat} {M M' : Int} {B T O : Nat → Nat} {G H : GS} (h : ApAt W w I J ba bv ja jv wb M B T O G H) (hM : M ≤ M') : ApAt W w I J ba bv ja jv wb M' B T O G H := by
  obtain ⟨p, h2, h3⟩ := h
  obtain ⟨gi, ti, b1, b2, b3, b4⟩ := p.bi
  obtain ⟨gj, tj, c1, c2, c3, c4⟩ := p.bj
  exact ⟨⟨p.i, p.j, ⟨gi, ti, b1, b2, b3, by omega⟩, ⟨gj, tj, c1, c2, c3, by omega⟩, p.two, p.oi, p.oj, p.sep⟩, h2, h3⟩
structure ApSep (W : World) (I J : Ids) (ba bv ja jv wb : Nat) : Prop where
  ps : PSep I J ba bv ja jv
  w1 : wb ∉ S8 I ba bv
  w2 : wb ∉ S8 J ja jv
  n1 : ∀ k ∈ S8 I ba bv, W.heap.size ≤ k
  n2 : ∀ k ∈ S8 J ja jv, W.heap.size ≤ k
  wW : W.heap.size ≤ wb
  nums : I.n = 24 ∧ I.o = 3 ∧ J.o = 5
theorem ApAt.swap {W w : World} {I J : Ids} {ba bv ja jv wb : Nat} {M : Int} {B T O : Nat → Nat} {G H : GS} (hs : ApSep W I J ba bv ja jv wb) (h : PairAt w J I ja jv ba bv M B T O H G) : PairAt w I J ba bv ja jv M B T O G H := h.symm hs.ps.kin.symm
/-- The guest's call kept the pair. -/
theorem ApAt.step1 {W w w' : World} {I J : Ids} {ba bv ja jv wb : Nat} {M M' : Int} {B T O B' T' O' : Nat → Nat} {G H G' H' : GS} (h : ApAt W w I J ba bv ja jv wb M B T O G H) (hs : ApSep W I J ba bv ja jv wb) (hp : PairAt w' I J ba bv ja jv M' B' T' O' G' H') (hc : Chg (S8 I ba bv) w w') : ApAt W w' I J ba bv ja jv wb M' B' T' O' G' H' :=
  ⟨hp, h.row.chg hc hs.w1, hc.to_grows h.base hs.n1⟩
theorem ApAt.step2 {W w w' : World} {I J : Ids} {ba bv ja jv wb : Nat} {M M' : Int} {B T O B' T' O' : Nat → Nat} {G H G' H' : GS} (h : ApAt W w I J ba bv ja jv wb M B T O G H) (hs : ApSep W I J ba bv ja jv wb) (hp : PairAt w' I J ba bv ja jv M' B' T' O' G' H') (hc : Chg (S8 J ja jv) w w') : ApAt W w' I J ba bv ja jv wb M' B' T' O' G' H' :=
  ⟨hp, h.row.chg hc hs.w2, hc.to_grows h.base hs.n2⟩
theorem put_src {w : World} {b : Nat} (h : Row w b #[.int .u8 9, .int .u8 9, .int .u8 9, .int .u8 9] 5) : Src w (some ⟨b, 0, none⟩) [9, 9, 9, 9] := by
  refine Src.of_bytes ⟨fun x hx => by simp at hx; omega, fun i hi => ?_⟩ h.lt
  have hi4 : i < 4 := hi
  rw [Nat.zero_add, h.cell i]
  have : i = 0 ∨ i = 1 ∨ i = 2 ∨ i = 3 := by omega
  rcases this with rfl | rfl | rfl | rfl <;> rfl
set_option maxRecDepth 100000 in
set_option maxHeartbeats 8000000 in
theorem balloonApart_walk (W : World) (A : Option Addr) (m c : Nat) (X : Nat → List Value) (hmc : m ≤ c) (hsz : c * 8 < 140737488355328) (hX : SliceIs2 enc Tryd.prog W [3] A m X) (hA : A = none → c = 0) (hT : Widths W) (hP : Places W) :
    Calls Tryd.prog 8 #[.slice A m c] W fun r w' => r = .returned (.bool true) ∧ Grows W w' := by
  have hm : m ≤ 140737488355328 := by omega
  have HZ := Lib.hid (⟨hT.1, hP.1⟩ : 1 < W.heap.size ∧ 0 < W.heap.size)
  clear hsz
  go_enter Tryd.func8, Tryd.ntmps8
  go_wp2_with fail
  refine (begin2 hT hP (n := 24) (by omega) (by omega) (pages := 8) (by omega) (by omega)).mono ?_
  rintro _ w1 ⟨wb, pm, q, fp, bt, bw, tb, bl, ba, bv, k, rfl, hR1, hB1, hG1, hk, hda, hdv, hdw, hnew, hg1⟩
  obtain ⟨I, hI⟩ : ∃ I : Ids, I = ⟨tb, pm, fp, bl, q, 24 * 256, 3, k, bt, bw, 24, 1⟩ := ⟨_, rfl⟩
  have hkr : k * 256 + 256 ≤ 24 * 256 := by omega
  have hk1 : 1 ≤ k := by
    rcases Nat.eq_zero_or_pos k with h0 | h0
    · rw [h0] at hk; exact absurd hk.2 (by decide)
    · exact h0
  have hO1 : One w1 I (putB (fun _ => 0) (k * 256) (List.replicate 256 0)) (upF (fstT 1) k 1) (upF (fun _ => 0) k 0) (fun _ => 1) (fun _ => (I.n : Int)) GS.empty := by
    rw [hI]
    refine ⟨⟨0, _, _, _, hG1, GsAt.empty hkr⟩, FsAt.empty ⟨show 1 ≤ 3 by decide, show 3 ≤ 16 by decide⟩ ⟨hk.1, hk1, upF_same _ _ _, upF_same _ _ _⟩ (fun f hf hT => ?_), by show (24 : Nat) ≤ 256; decide, fun f => by show (1 : Nat) ≤ 60000; decide⟩
    show upF (fun _ => 0) k 0 f ≠ 3
    unfold upF; split
    · decide
    · show (0 : Nat) ≠ 3; decide
  have hi0 : upF (fstT 1) k 1 (if k = 1 then 2 else 1) = 0 := by
    by_cases h1 : k = 1
    · rw [if_pos h1, upF_ne _ _ (by omega)]; rfl
    · rw [if_neg h1, upF_ne _ _ (by omega)]; rfl
  have hi1 : (if k = 1 then 2 else 1) < 24 := by split <;> omega
  have hno : ∀ f, f < I.n → 0 < upF (fstT 1) k 1 f → upF (fun _ => 0) k 0 f ≠ 5 := fun f _ _ => by
    unfold upF; split
    · decide
    · show (0 : Nat) ≠ 5; decide
  have hn24 : I.n = 24 := by rw [hI]
  have hsn := fun W' (hg : Grows w1 W') => snew_two (hO1.grows hg) (g := 5) (by omega) (by omega) (by rw [hI]; show (5 : Nat) ≠ 3; decide) hno ⟨_, by rw [hn24]; exact hi1, hi0⟩ (by
    have := ownC_lt_n (n := I.n) (j := if k = 1 then 2 else 1) (o := 0) (T := upF (fstT 1) k 1) (O := upF (fun _ => 0) k 0) (by rw [hn24]; exact hi1) (Or.inl hi0)
    omega)
  have HSN := Lib.hid hsn
  have HR1 : Hid (Row w1 wb (wRow I.pm I.fp I.tb ba) 89) := Lib.hid (by rw [hI]; exact hR1)
  have HB1 : Hid (bal1 w1 I ba bv 0 GS.empty) := Lib.hid ⟨0, 0, by rw [hI]; exact hB1, by rw [show cntP GS.empty 0 = 0 from cn_none fun _ _ => rfl]; rfl, by omega, by omega⟩
  have HG1 := Lib.hid hg1
  have HN1 : Hid (BaSep ba bv I ∧ (wb ≠ I.fp ∧ wb ≠ I.bt ∧ wb ≠ I.bw ∧ wb ≠ I.q ∧ wb ≠ I.tb ∧ wb ≠ I.bl ∧ wb ≠ ba ∧ wb ≠ bv) ∧ (W.heap.size ≤ I.fp ∧ W.heap.size ≤ I.bt ∧ W.heap.size ≤ I.bw ∧ W.heap.size ≤ I.q ∧ W.heap.size ≤ I.tb ∧ W.heap.size ≤ I.bl ∧ W.heap.size ≤ ba ∧ W.heap.size ≤ bv ∧ W.heap.size ≤ wb)) := Lib.hid (by rw [hI]; exact ⟨⟨hda, hdv⟩, hdw, hnew⟩)
  have HLT : Hid (wb < w1.heap.size ∧ ba < w1.heap.size ∧ bv < w1.heap.size) := Lib.hid ⟨hR1.lt, hB1.row.lt, hB1.wm.lt⟩
  have HO1 := Lib.hid hO1
  have HNUM : Hid (I.n = 24 ∧ I.o = 3 ∧ I.N / 256 ≠ 0) := Lib.hid (by rw [hI]; exact ⟨rfl, rfl, by show 24 * 256 / 256 ≠ 0; decide⟩)
  have cw0 := HR1.out.cell 0
  have cw1 := HR1.out.cell 1
  have lt := HR1.out.lt
  clear hR1 hB1 hG1 hk hda hdv hdw hnew hg1 hI hkr hk1 hO1 hi0 hi1 hno hn24 hsn hT hP
  go_wp2_with fail
  have HSG := Lib.hid (fun (w' : World) (h : Row w' wb (wRow I.pm I.fp I.tb ba) 89) => (⟨h.cell 0, h.cell 1⟩ : w'.cell? ⟨wb, 0, none⟩ = some (.pointer (some ⟨I.pm, 0, none⟩)) ∧ w'.cell? ⟨wb, 1, none⟩ = some (.pointer (some ⟨I.fp, 0, none⟩))))
  go_region_held3 (fun w' => w'.cell? ⟨wb, 0, none⟩ = some (.pointer (some ⟨I.pm, 0, none⟩)) ∧ w'.cell? ⟨wb, 1, none⟩ = some (.pointer (some ⟨I.fp, 0, none⟩))) (first
    | with_reducible exact HSG.out _ ((HR1.out.grows ((Grows.refl _).drew)).chg HC2.out (by have := HN1.out.2.1; simp; omega))
    | with_reducible exact HSG.out _ (HR1.out.grows ((Grows.refl _).drew))) (first
    | (go_at_call 21; refine (HSN.out _ ((Grows.refl _).drew)).mono ?_; rintro _ w2 ⟨tb2, bl2, k2, rfl, hkn, hTk, hfk, htb, hbl, hne, hi2, hj2, hsep, htb2, hC2⟩
       have HC2 := Lib.hid hC2
       have HI2 := Lib.hid hi2
       have HJ2 := Lib.hid hj2
       have HE2 := Lib.hid hsep
       have HT2 := Lib.hid htb2
       have HSZ : Hid (w1.heap.size ≤ tb2 ∧ w1.heap.size ≤ bl2 ∧ tb2 ≠ bl2) := Lib.hid ⟨htb, hbl, hne⟩
       clear hC2 hi2 hj2 hsep htb2 hkn hTk hfk htb hbl hne))
  all_goals
    have HR2 := Lib.hid ((HR1.out.grows ((Grows.refl _).drew)).chg HC2.out (by have := HN1.out.2.1; simp; omega))
    have HB2 := Lib.hid ((HB1.out.chg (Chg.of_grows (S := []) ((Grows.refl w1).drew)) (by simp) (by simp)).chg HC2.out (by have := HN1.out.1.a; simp; omega) (by have := HN1.out.1.v; simp; omega))
    have HG2 := Lib.hid (HC2.out.to_grows HG1.out.drew (by have := HN1.out.2.2; simp; omega))
    have hs2 := HC2.out.size
    have HSZ2 : Hid (w1.heap.size ≤ w2.heap.size) := Lib.hid hs2
    obtain ⟨low2, hF2⟩ := HI2.out.fr
    have hbn := bnew_ok2 HI2.out.mem hF2 HNUM.out.2.2 HT2.out (g := 5) (by omega) (by omega) (pages := 8) (by omega) (by omega)
    have HBN := Lib.hid (fun W' (hg : Grows w2 W') => bnew_ok2 (MemAt.grows HI2.out.mem hg) (hF2.grows hg) HNUM.out.2.2 (HT2.out.grows hg) (g := 5) (by omega) (by omega) (pages := 8) (by omega) (by omega))
    have cw0 := HR2.out.cell 0
    have cw1 := HR2.out.cell 1
    have lt := HR2.out.lt
    clear hbn hF2 hs2 HR1 HB1 HG1 HC2 HSN
    go_wp2_with fail
    go_region_held3 (fun w' => w'.cell? ⟨wb, 0, none⟩ = some (.pointer (some ⟨I.pm, 0, none⟩)) ∧ w'.cell? ⟨wb, 1, none⟩ = some (.pointer (some ⟨I.fp, 0, none⟩))) (first
      | with_reducible exact HSG.out _ (HR2.out.grows HG3.out)
      | with_reducible exact HSG.out _ (HR2.out.grows ((Grows.refl _).drew))) (first
      | (go_at_call 33; refine (HBN.out _ ((Grows.refl _).drew)).mono ?_; rintro _ w3 ⟨ja, jv, rfl, hg3, hja, hjv, hnej, hB3⟩
         have HG3 := Lib.hid (((Grows.refl w2).drew).trans hg3)
         have HJB : Hid (w2.heap.size ≤ ja ∧ w2.heap.size ≤ jv ∧ ja ≠ jv) := Lib.hid ⟨hja, hjv, hnej⟩
         have HB3 := Lib.hid hB3
         clear hg3 hja hjv hnej hB3))
    all_goals
      obtain ⟨J, hJ⟩ : ∃ J : Ids, J = ⟨tb2, I.pm, I.fp, bl2, I.q, I.N, 5, k2, I.bt, I.bw, I.n, I.first⟩ := ⟨_, rfl⟩
      obtain ⟨n24, o3, _⟩ := HNUM.out
      have hkin : Kin I J := by
        rw [hJ]; exact ⟨rfl, rfl, rfl, rfl, rfl, rfl, rfl, rfl, by show (5 : Nat) ≠ I.o; rw [o3]; decide⟩
      have hpair : PairAt w3 I J ba bv ja jv 0 (putB (putB (fun _ => 0) (k * 256) (List.replicate 256 0)) (k2 * 256) (List.replicate 256 0)) (upF (upF (fstT 1) k 1) k2 1) (upF (upF (fun _ => 0) k 0) k2 0) GS.empty GS.empty := by
        refine ⟨HI2.out.grows HG3.out, by rw [hJ]; exact HJ2.out.grows HG3.out, HB2.out.chg (Chg.of_grows (S := []) HG3.out) (by simp) (by simp), ⟨0, 0, by rw [hJ]; exact HB3.out, by rw [show cntP GS.empty 0 = 0 from cn_none fun _ _ => rfl]; rfl, by omega, by omega⟩, fun f hf hT hO => ?_, fun _ _ => rfl, fun _ _ => rfl, by rw [hJ]; exact HE2.out⟩
        exfalso
        have : upF (upF (fun _ => 0) k 0) k2 0 f = 0 := by
          unfold upF; split
          · rfl
          · split <;> rfl
        rw [this, o3, hJ] at hO
        rcases hO with hO | hO
        · cases hO
        · have : (0 : Nat) = 5 := hO
          cases this
      have hsp : ApSep W I J ba bv ja jv wb := by
        obtain ⟨s, c', L, low, g1, g2⟩ := HO1.out.ex
        have lts := (GuAt.lts g1)
        obtain ⟨b1, b2, b3, b4, b5, b6, b7, b8⟩ := HN1.out.2.1
        obtain ⟨z1, z2, z3, z4, z5, z6, z7, z8, z9⟩ := HN1.out.2.2
        obtain ⟨t1, t2, t3⟩ := HSZ.out
        obtain ⟨j1, j2, j3⟩ := HJB.out
        obtain ⟨l1, l2, l3⟩ := HLT.out
        have e6 := HSZ2.out
        have e9 : tb2 < w2.heap.size ∧ bl2 < w2.heap.size := ⟨HT2.out.row.lt, by obtain ⟨s', c'', L', low', j1, j2⟩ := HJ2.out.ex; exact j1.st.map.lt⟩
        have hpl := g1.st.mem.plt
        have d1 := g1.apt
        have d2 := g1.apl
        have d3 := g1.st.sep
        have hWw : W.heap.size ≤ w1.heap.size := by omega
        refine ⟨psep_of w1.heap.size W.heap.size hkin HN1.out.1 ⟨lts.1, lts.2.1, lts.2.2.1, lts.2.2.2.1, lts.2.2.2.2.1, lts.2.2.2.2.2, l2, l3, hpl⟩ (by rw [hJ]; exact ⟨t1, t2, by omega, by omega⟩) HZ.out ⟨z1, z2, z3, z4, z5, z6, z7, z8⟩ hWw ⟨⟨d1.1, d1.2.1, d1.2.2.1, d3.1.symm⟩, ⟨d2.1, d2.2.1, d2.2.2.1, d3.2.1.symm⟩⟩ (by rw [hJ]; exact ⟨(by show ja ≠ tb2; omega), (by show ja ≠ bl2; omega), (by show jv ≠ tb2; omega), (by show jv ≠ bl2; omega)⟩), ?_, ?_, ?_, ?_, z9, n24, o3, by rw [hJ]⟩
        · simp only [S8, List.mem_cons, List.not_mem_nil, or_false, not_or]
          exact ⟨b1, b2, b3, b4, b5, b6, b7, b8⟩
        · rw [hJ]
          simp only [S8, List.mem_cons, List.not_mem_nil, or_false, not_or]
          clear d1 d2 d3 b5 b6 b7 b8
          exact ⟨b1, b2, b3, b4, by omega, by omega, by omega, by omega⟩
        · intro x hx
          simp only [S8, List.mem_cons, List.not_mem_nil, or_false] at hx
          clear d1 d2 d3 b1 b2 b3 b4 b5 b6 b7 b8
          rcases hx with rfl | rfl | rfl | rfl | rfl | rfl | rfl | rfl <;> assumption
        · intro x hx
          rw [hJ] at hx
          simp only [S8, List.mem_cons, List.not_mem_nil, or_false] at hx
          clear d1 d2 d3 b1 b2 b3 b4 b5 b6 b7 b8
          rcases hx with rfl | rfl | rfl | rfl | rfl | rfl | rfl | rfl <;> omega
      have jtb : tb2 = J.tb := by rw [hJ]
      rw [jtb]
      have HAp : Hid (ApAt W w3 I J ba bv ja jv wb 0 _ _ _ GS.empty GS.empty) := Lib.hid ⟨hpair, HR2.out.grows HG3.out, HG2.out.trans HG3.out⟩
      have HS := Lib.hid hsp
      have H5 : Hid (J.o = 5) := Lib.hid (by rw [hJ])
      clear hJ hkin hpair hsp n24 o3 jtb HN1 HLT HO1 cw0 cw1 lt HSG HI2 HJ2 HE2 HT2 HSZ HR2 HB2 HG2 HSZ2 HBN HG3 HJB HB3 HZ
      go_wp2_with fail
      go_loopw [8] (fun u wi => ∃ (i : Nat) (B T O : Nat → Nat) (G H : GS), i ≤ m ∧ i ≤ 60 ∧ u = .int .i64 i ∧ ApAt W wi I J ba bv ja jv wb (i : Int) B T O G H) (fun u _ => (m - intOf u).toNat)
      case atStart => exact ⟨0, _, _, _, _, _, by omega, by omega, rfl, HAp.out⟩
      case round =>
        clear HAp
        obtain ⟨i, B, T, O, G, H, hi, hi60, rfl, hAp⟩ := hrel
        have HAp := Lib.hid hAp
        clear hAp
        by_cases him : i < m
        · by_cases h60 : i < 60
          · obtain ⟨b, o, rfl, hb, x, d0⟩ := num_at2 hX him
            obtain ⟨q, hq, hq7⟩ := and7' x
            obtain ⟨e8, he8⟩ : ∃ e, bits .and .i64 x 8 = e := ⟨_, rfl⟩
            have HXC := Lib.hid (fun W' (h : Grows W W') => (h.cell hb).trans d0)
            have HBL := Lib.hid (fun W' (h : Grows W W') => h.lt hb)
            have dx := HXC.out _ HAp.out.base
            have dl := HBL.out _ HAp.out.base
            have cw2 : wr.cell? ⟨wb, 2, none⟩ = some (.pointer (some ⟨I.tb, 0, none⟩)) := HAp.out.row.cell 2
            have cw3 : wr.cell? ⟨wb, 3, none⟩ = some (.pointer (some ⟨ba, 0, none⟩)) := HAp.out.row.cell 3
            have lw := HAp.out.row.lt
            clear hX d0 hb
            have h60' : decide ((i : Int) < 60) = true := decide_eq_true (by omega)
            go_wp2_with fail
            go_region
            all_goals
              have hAd := HAp.out.grows ((Grows.refl wr).drew)
              have HAp := Lib.hid hAd
              have dx := HXC.out _ HAp.out.base
              have dl := HBL.out _ HAp.out.base
              clear hAd cw2 cw3 lw
              by_cases h8 : e8 = 0
              · have HP := Lib.hid HAp.out.pair
                subst h8
                obtain ⟨GG, hGG⟩ : ∃ GG, GG = G := ⟨_, rfl⟩
                rw [← hGG] at HP
                cases hg : GG.pg q with
                | some g =>
                  have htk := pair_take HP.out HS.out.ps (by omega) (by omega) hg
                  go_wp2_with fail
                  refine htk.mono ?_
                  rintro _ w3 ⟨rfl, hC3, hset⟩
                  clear htk
                  go_wp2_with fail
                  refine hset.mono ?_
                  rintro _ w4 ⟨rfl, hC4, B4, T4, O4, G4, hB4⟩
                  have HA4 := Lib.hid (ApAt.step1 HAp.out HS.out (id hB4) hC4)
                  clear hset hC3 hC4 hB4
                  go_wp2_with fail
                  exact ⟨⟨i + 1, _, _, _, _, _, by omega, by omega, by simp, by rw [show ((i + 1 : Nat) : Int) = (i : Int) + 1 by omega]; exact HA4.out⟩, by simp [intOf]; omega⟩
                | none =>
                  have htk := pair_take_no HP.out (page := q) (by omega) hg
                  go_wp2_with fail
                  refine htk.mono ?_
                  rintro _ w3 ⟨rfl, hg3⟩
                  have hgv := pair_give (HP.out.grows hg3) HS.out.ps (by omega) (page := q) (by omega) hg
                  have HA3 := Lib.hid (HAp.out.grows hg3)
                  clear htk
                  go_wp2_with fail
                  refine hgv.mono ?_
                  rintro _ w4 ⟨er, rfl, hC4, ⟨rfl, B4, T4, O4, G4, hB4⟩ | ⟨rfl, B4, T4, O4, G4, kf, hB4, hgk, hkn', hT2, hOk, hz⟩⟩
                  · have HA4 := Lib.hid (ApAt.step1 HA3.out HS.out (id hB4) hC4)
                    clear hgv hC4 hB4 HA3
                    go_wp2_with fail
                    exact ⟨⟨i + 1, _, _, _, _, _, by omega, by omega, by simp, HA4.out.weaken (by omega)⟩, by simp [intOf]; omega⟩
                  · have HA4 := Lib.hid (ApAt.step1 HA3.out HS.out (id hB4) hC4)
                    have hkn : kf < 24 := by have := HNUM.out.1; have := HS.out.ps.kin.n; omega
                    have hlk := look_one hB4.i (page := q) (by omega)
                    rw [hgk] at hlk
                    dsimp only at hlk
                    rw [HS.out.nums.2.1] at hOk
                    have HK := Lib.hid (⟨hkn, hT2, hOk, hz⟩ : kf < 24 ∧ T4 kf = 2 ∧ O4 kf = _ ∧ ∀ i, i < 256 → B4 (kf * 256 + i) = 0)
                    clear hgv hC4 hB4 HA3 hgk hkn hkn' hT2 hOk hz hg3
                    go_wp2_with fail
                    refine hlk.mono ?_
                    rintro _ w5 ⟨rfl, hg5⟩
                    have HA5 := Lib.hid (HA4.out.grows hg5)
                    clear hlk hg5 HA4 HP
                    go_upto_region 24 with fail
                    obtain ⟨W6, hW6⟩ : ∃ W6, W6 = w5.alloc (Obj.cells #[.bool true, .bool true, .bool true] 23) := ⟨_, rfl⟩
                    rw [← hW6]
                    have HA6 := Lib.hid (HA5.out.grows (show Grows w5 W6 by rw [hW6]; exact (Grows.refl _).alloc _))
                    clear hW6 HA5
                    obtain ⟨low6, hF6⟩ := HA6.out.pair.i.fr
                    rw [HNUM.out.1] at hF6
                    have how := Owner_some hF6 HK.out.1 (by rw [HK.out.2.1]; omega)
                    rw [HK.out.2.1, HK.out.2.2.1] at how
                    have cw1 : W6.cell? ⟨wb, 1, none⟩ = some (.pointer (some ⟨I.fp, 0, none⟩)) := HA6.out.row.cell 1
                    have lw := HA6.out.row.lt
                    clear hF6
                    go_wp2_with fail
                    refine how.mono ?_
                    rintro _ w7 ⟨rfl, hg7⟩
                    have HA7 := Lib.hid (HA6.out.grows hg7)
                    have dx := HXC.out _ HA7.out.base
                    have dl := HBL.out _ HA7.out.base
                    have hN := HA7.out.pair.i.nN
                    rw [HNUM.out.1] at hN
                    have hkf := HK.out.1
                    have hzy := zero_yes HA7.out.pair.i.mem HA7.out.row rfl (f := kf) (by omega) (by omega) HK.out.2.2.2
                    clear how hg7 HA6 cw1 lw
                    go_wp2_with fail
                    refine hzy.mono ?_
                    rintro _ w8 ⟨rfl, hg8⟩
                    have HA8 := Lib.hid (HA7.out.grows hg8)
                    have wm : IntKind.i64.wrap (256 * (kf : Int)) = ((kf * 256 : Nat) : Int) := by rw [IntKind.wrap_i64]; omega
                    have wu : IntKind.u64.wrap ((kf * 256 : Nat) : Int) = ((kf * 256 : Nat) : Int) := by rw [IntKind.wrap_u64]; omega
                    have hin : kf * 256 + 4 ≤ I.N := by omega
                    obtain ⟨AA, hAA⟩ : ∃ AA : Nat, AA = kf * 256 := ⟨_, rfl⟩
                    rw [← hAA] at wm wu hin
                    have cw0 : w8.cell? ⟨wb, 0, none⟩ = some (.pointer (some ⟨I.pm, 0, none⟩)) := HA8.out.row.cell 0
                    have lw := HA8.out.row.lt
                    have HAA := Lib.hid hAA
                    clear hzy hg8 HA7 dx dl hN hkf hAA
                    go_wp2_with fail
                    obtain ⟨W9, hW9⟩ : ∃ W9, W9 = w8.alloc (Obj.cells #[.int .u8 9, .int .u8 9, .int .u8 9, .int .u8 9] 5) := ⟨_, rfl⟩
                    obtain ⟨b9, hb9⟩ : ∃ b, b = w8.heap.size := ⟨_, rfl⟩
                    rw [← hW9, ← hb9]
                    have hr9 : Row W9 b9 #[.int .u8 9, .int .u8 9, .int .u8 9, .int .u8 9] 5 := by rw [hW9]; exact Row.new_at _ _ _ hb9
                    have HA9 := Lib.hid (HA8.out.grows (show Grows w8 W9 by rw [hW9]; exact (Grows.refl _).alloc _))
                    have hpt := Put_ok HA9.out.pair.i.mem AA 4 4 (some ⟨b9, 0, none⟩) [9, 9, 9, 9] (put_src hr9) rfl hin
                    clear hW9 hb9 hr9 HA8 cw0 lw wm wu hin
                    refine hpt.mono ?_
                    rintro _ w10 ⟨rfl, hM10, hC10⟩
                    rw [HAA.out] at hM10
                    have hp10 := HA9.out.pair.put HS.out.ps HK.out.2.1 (by show 4 ≤ 256; decide) hM10 hC10
                    have HA10 := Lib.hid (ApAt.step1 HA9.out HS.out hp10 (to8 hC10 (S8_q I ba bv)))
                    clear hpt hM10 hC10 hp10 HA9
                    go_wp2_with fail
                    exact ⟨⟨i + 1, _, _, _, _, _, by omega, by omega, by simp, HA10.out.weaken (by omega)⟩, by simp [intOf]; omega⟩
              · have h8' : (e8 == 0) = false := by simp; exact h8
                have h8'' : (e8 != 0) = true := by simp; exact h8
                have HP := Lib.hid (HAp.out.pair.symm HS.out.ps.kin)
                obtain ⟨GG, hGG⟩ : ∃ GG, GG = H := ⟨_, rfl⟩
                rw [← hGG] at HP
                cases hg : GG.pg q with
                | some g =>
                  have htk := pair_take HP.out HS.out.ps.symm (by omega) (by omega) hg
                  go_wp2_with fail
                  refine htk.mono ?_
                  rintro _ w3 ⟨rfl, hC3, hset⟩
                  clear htk
                  go_wp2_with fail
                  refine hset.mono ?_
                  rintro _ w4 ⟨rfl, hC4, B4, T4, O4, G4, hB4⟩
                  have HA4 := Lib.hid (ApAt.step2 HAp.out HS.out ((ApAt.swap HS.out) hB4) hC4)
                  clear hset hC3 hC4 hB4
                  go_wp2_with fail
                  exact ⟨⟨i + 1, _, _, _, _, _, by omega, by omega, by simp, by rw [show ((i + 1 : Nat) : Int) = (i : Int) + 1 by omega]; exact HA4.out⟩, by simp [intOf]; omega⟩
                | none =>
                  have htk := pair_take_no HP.out (page := q) (by omega) hg
                  go_wp2_with fail
                  refine htk.mono ?_
                  rintro _ w3 ⟨rfl, hg3⟩
                  have hgv := pair_give (HP.out.grows hg3) HS.out.ps.symm (by omega) (page := q) (by omega) hg
                  have HA3 := Lib.hid (HAp.out.grows hg3)
                  clear htk
                  go_wp2_with fail
                  refine hgv.mono ?_
                  rintro _ w4 ⟨er, rfl, hC4, ⟨rfl, B4, T4, O4, G4, hB4⟩ | ⟨rfl, B4, T4, O4, G4, kf, hB4, hgk, hkn', hT2, hOk, hz⟩⟩
                  · have HA4 := Lib.hid (ApAt.step2 HA3.out HS.out ((ApAt.swap HS.out) hB4) hC4)
                    clear hgv hC4 hB4 HA3
                    go_wp2_with fail
                    exact ⟨⟨i + 1, _, _, _, _, _, by omega, by omega, by simp, HA4.out.weaken (by omega)⟩, by simp [intOf]; omega⟩
                  · have HA4 := Lib.hid (ApAt.step2 HA3.out HS.out ((ApAt.swap HS.out) hB4) hC4)
                    have hkn : kf < 24 := by have := HNUM.out.1; have := HS.out.ps.kin.n; omega
                    have hlk := look_one hB4.i (page := q) (by omega)
                    rw [hgk] at hlk
                    dsimp only at hlk
                    rw [HS.out.nums.2.2] at hOk
                    have HK := Lib.hid (⟨hkn, hT2, hOk, hz⟩ : kf < 24 ∧ T4 kf = 2 ∧ O4 kf = _ ∧ ∀ i, i < 256 → B4 (kf * 256 + i) = 0)
                    clear hgv hC4 hB4 HA3 hgk hkn hkn' hT2 hOk hz hg3
                    go_wp2_with fail
                    refine hlk.mono ?_
                    rintro _ w5 ⟨rfl, hg5⟩
                    have HA5 := Lib.hid (HA4.out.grows hg5)
                    clear hlk hg5 HA4 HP
                    go_upto_region 24 with fail
                    obtain ⟨W6, hW6⟩ : ∃ W6, W6 = w5.alloc (Obj.cells #[.bool true, .bool true, .bool true] 23) := ⟨_, rfl⟩
                    rw [← hW6]
                    have HA6 := Lib.hid (HA5.out.grows (show Grows w5 W6 by rw [hW6]; exact (Grows.refl _).alloc _))
                    clear hW6 HA5
                    obtain ⟨low6, hF6⟩ := HA6.out.pair.i.fr
                    rw [HNUM.out.1] at hF6
                    have how := Owner_some hF6 HK.out.1 (by rw [HK.out.2.1]; omega)
                    rw [HK.out.2.1, HK.out.2.2.1] at how
                    have cw1 : W6.cell? ⟨wb, 1, none⟩ = some (.pointer (some ⟨I.fp, 0, none⟩)) := HA6.out.row.cell 1
                    have lw := HA6.out.row.lt
                    clear hF6
                    go_wp2_with fail
                    refine how.mono ?_
                    rintro _ w7 ⟨rfl, hg7⟩
                    have HA7 := Lib.hid (HA6.out.grows hg7)
                    have dx := HXC.out _ HA7.out.base
                    have dl := HBL.out _ HA7.out.base
                    have hN := HA7.out.pair.i.nN
                    rw [HNUM.out.1] at hN
                    have hkf := HK.out.1
                    have hzy := zero_yes HA7.out.pair.i.mem HA7.out.row rfl (f := kf) (by omega) (by omega) HK.out.2.2.2
                    clear how hg7 HA6 cw1 lw
                    go_wp2_with fail
                    refine hzy.mono ?_
                    rintro _ w8 ⟨rfl, hg8⟩
                    have HA8 := Lib.hid (HA7.out.grows hg8)
                    have wm : IntKind.i64.wrap (256 * (kf : Int)) = ((kf * 256 : Nat) : Int) := by rw [IntKind.wrap_i64]; omega
                    have wu : IntKind.u64.wrap ((kf * 256 : Nat) : Int) = ((kf * 256 : Nat) : Int) := by rw [IntKind.wrap_u64]; omega
                    have hin : kf * 256 + 4 ≤ I.N := by omega
                    obtain ⟨AA, hAA⟩ : ∃ AA : Nat, AA = kf * 256 := ⟨_, rfl⟩
                    rw [← hAA] at wm wu hin
                    have cw0 : w8.cell? ⟨wb, 0, none⟩ = some (.pointer (some ⟨I.pm, 0, none⟩)) := HA8.out.row.cell 0
                    have lw := HA8.out.row.lt
                    have HAA := Lib.hid hAA
                    clear hzy hg8 HA7 dx dl hN hkf hAA
                    go_wp2_with fail
                    obtain ⟨W9, hW9⟩ : ∃ W9, W9 = w8.alloc (Obj.cells #[.int .u8 9, .int .u8 9, .int .u8 9, .int .u8 9] 5) := ⟨_, rfl⟩
                    obtain ⟨b9, hb9⟩ : ∃ b, b = w8.heap.size := ⟨_, rfl⟩
                    rw [← hW9, ← hb9]
                    have hr9 : Row W9 b9 #[.int .u8 9, .int .u8 9, .int .u8 9, .int .u8 9] 5 := by rw [hW9]; exact Row.new_at _ _ _ hb9
                    have HA9 := Lib.hid (HA8.out.grows (show Grows w8 W9 by rw [hW9]; exact (Grows.refl _).alloc _))
                    have hpt := Put_ok HA9.out.pair.i.mem AA 4 4 (some ⟨b9, 0, none⟩) [9, 9, 9, 9] (put_src hr9) rfl hin
                    clear hW9 hb9 hr9 HA8 cw0 lw wm wu hin
                    refine hpt.mono ?_
                    rintro _ w10 ⟨rfl, hM10, hC10⟩
                    rw [HAA.out] at hM10
                    have hp10 := HA9.out.pair.put HS.out.ps HK.out.2.1 (by show 4 ≤ 256; decide) hM10 hC10
                    have HA10 := Lib.hid (ApAt.step1 HA9.out HS.out hp10 (to8 hC10 (S8_q I ba bv)))
                    clear hpt hM10 hC10 hp10 HA9
                    go_wp2_with fail
                    exact ⟨⟨i + 1, _, _, _, _, _, by omega, by omega, by simp, HA10.out.weaken (by omega)⟩, by simp [intOf]; omega⟩
          · have HG := Lib.hid HAp.out.base
            have h60' : decide ((i : Int) < 60) = false := decide_eq_false (by omega)
            clear HAp
            go_wp2_with fail
            go_ret
            exact ⟨rfl, HG.out⟩
        · have HG := Lib.hid HAp.out.base
          clear HAp
          go_wp2_with fail
          go_ret
          exact ⟨rfl, HG.out⟩
end
end Go.Proofs.YtlchlklbjocliaaDoor
