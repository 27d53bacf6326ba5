/- The walk of StageRights. -/
import Derived.Test.YtlchlklbjocliaaDoorMI
import Derived.Test.YtlchlklbjocliaaDoorML
import Derived.Test.YtlchlklbjocliaaDoorMB
import Derived.BigRegion
import Derived.Deep.DeepCutAuto
import Derived.Deep.CutBlock
namespace Go.Proofs.YtlchlklbjocliaaDoor
open Go Go.RowKit
set_option linter.unusedSimpArgs false
set_option linter.unusedVariables false
set_option maxRecDepth 100000
section
variable {H : Type} {enc : TypeId × Value → H}
theorem num_at3 {W : World} {A : Option Addr} {m : Nat} {X : Nat → List Value} (hX : SliceIs2 enc Tryd.prog W [3] A m X) {i : Nat} (hi : i < m) :
    ∃ b o, A = some ⟨b, o, none⟩ ∧ b < W.heap.size ∧ ∃ x : Int, W.cell? ⟨b, o + i, none⟩ = some (.int .i64 x) := by
  obtain ⟨b, o, hA, hb, hL, hc⟩ := hX i hi
  obtain ⟨c0, cs0, e0, l0, hL⟩ := hL.cons
  obtain ⟨x, rfl, hx⟩ := l0.int Tryd.underlying3
  refine ⟨b, o, hA, hb, x, ?_⟩
  have := hc 0 (by decide)
  rw [e0] at this
  simpa using this
theorem and1023 (x : Int) : ∃ q : Nat, bits .and .i64 x 1023 = q ∧ q ≤ 1023 := by
  have e : bits .and .i64 x 1023 = x % 1024 := and_mask_i64 (n := 10) (by omega)
  rw [e]
  exact ⟨(x % 1024).toNat, by omega, by omega⟩
theorem neq_rr (a b c a' b' c' : Bool) (w : World) : (binOp .neq 23 (.agg #[.bool a, .bool b, .bool c]) (.agg #[.bool a', .bool b', .bool c'])).run Tryd.prog w = .ok (.bool (!(a == a' && (b == b' && c == c')))) w := by
  simp [go_sem]
  iterate 3
    split
    rotate_left
    · simp_all
  simp_all
/-- What stands between the changes. -/
structure RgAt (W w : World) (I : Ids) (wb q kf : Nat) (r x1 x2 : Bool) : Prop where
  one : ∃ B T O G, One w I B T O (fun _ => 1) (fun _ => ((24 : Nat) : Int)) G ∧ G.pg q = some ⟨kf, r, x1, x2⟩
  row : ∃ rr : Array Value, Row w wb rr 65 ∧ rr[0]? = some (.pointer (some ⟨I.pm, 0, none⟩)) ∧ rr[2]? = some (.pointer (some ⟨I.tb, 0, none⟩))
  base : Grows W w
theorem RgAt.grows {W w w' : World} {I : Ids} {wb q kf : Nat} {r x1 x2 : Bool} (h : RgAt W w I wb q kf r x1 x2) (hg : Grows w w') : RgAt W w' I wb q kf r x1 x2 := by
  obtain ⟨⟨B, T, O, G, h1, h2⟩, ⟨rr, h3, h4⟩, h5⟩ := h
  exact ⟨⟨B, T, O, G, h1.grows hg, h2⟩, ⟨rr, h3.grows hg, h4⟩, h5.trans hg⟩
theorem RgAt.chgb {W w w' : World} {I : Ids} {wb q kf b K : Nat} {r x1 x2 : Bool} (h : RgAt W w I wb q kf r x1 x2) (hc : Chg [b] w w') (hlt : I.fp < K ∧ I.bt < K ∧ I.bw < K ∧ I.q < K ∧ I.tb < K ∧ I.bl < K ∧ I.pm < K ∧ wb < K) (hb : K ≤ b) (hz : 1 < W.heap.size ∧ 0 < W.heap.size) (hW : W.heap.size ≤ b) : RgAt W w' I wb q kf r x1 x2 := by
  obtain ⟨⟨B, T, O, G, h1, h2⟩, ⟨rr, h3, h4⟩, h5⟩ := h
  obtain ⟨s, c, L, low, g1, g2⟩ := h1.ex
  exact ⟨⟨B, T, O, G, ⟨⟨s, c, L, low, g1.apart hc (by simp; omega) (by simp; omega) (by simp; omega) (by simp; omega) (by simp; omega) (by simp; omega) (by simp; omega), g2⟩, h1.fs, h1.nb, h1.eb⟩, h2⟩, ⟨rr, h3.chg hc (by simp; omega), h4⟩, hc.to_grows h5 (by simp; omega)⟩
set_option maxRecDepth 100000 in
set_option maxHeartbeats 8000000 in
theorem stageRights_walk (W : World) (page : Int) (_ : (Lit.int .i64 page).wf = true) (A : Option Addr) (m c : Nat) (X : Nat → List Value) (hmc : m ≤ c) (hsz : c * 8 < 140737488355328) (hX : SliceIs2 enc Tryd.prog W [3] A m X) (hA : A = none → c = 0) (hT : Widths W) (hP : Places W) :
    Calls Tryd.prog 6 #[.int .i64 page, .slice A m c] W fun r w' => r = .returned (.bool true) ∧ Grows W w' := by
  have hm : m ≤ 140737488355328 := by omega
  obtain ⟨q, hq, hq1⟩ := and1023 page
  have HZ := Lib.hid (⟨hT.1, hP.1⟩ : 1 < W.heap.size ∧ 0 < W.heap.size)
  clear hsz
  go_enter Tryd.func6, Tryd.ntmps6
  go_wp2_with fail
  refine (begin17_ok hT hP (n := 24) (first := 1) (by omega) (by omega) (by omega)).mono ?_
  rintro _ w1 ⟨wb, rfl, I, J, rm, rq, rf, rfq, u1, u2, k1, k2, hB, hO, ⟨n1, n2, n3, n4, n5⟩, hk1, hk2, hT1, hT2⟩
  have hheld : heldC 24 (upF (upF (fstT 1) k1 1) k2 1) = 3 := by
    rw [heldC_new hk2 hT2 (by omega), heldC_new hk1 hT1 (by omega), heldC_fst 24 1 (by omega)]
  obtain ⟨TT, hTT⟩ : ∃ TT, TT = upF (upF (fstT 1) k1 1) k2 1 := ⟨_, rfl⟩
  obtain ⟨OO, hOO⟩ : ∃ OO, OO = upF (upF (fun _ => 0) k1 0) k2 0 := ⟨_, rfl⟩
  rw [← hTT] at hheld
  have hI := hB.i
  rw [← hTT, ← hOO] at hI
  have hal := alloc_one hI (fun _ _ _ => rfl)
  rw [n3] at hal
  have hrow := hB.row
  have c1 : w1.cell? ⟨wb, 1, none⟩ = some (.pointer (some ⟨I.fp, 0, none⟩)) := hrow.cell 1
  have lt := hrow.lt
  have HR1 := Lib.hid hrow
  have HG1 := Lib.hid hB.base
  have HN := Lib.hid (⟨n1, n2, n3, n5⟩ : I.n = 24 ∧ I.first = 1 ∧ I.o = 1 ∧ I.N = 24 * 256)
  have HH := Lib.hid hheld
  have HO := Lib.hid hO
  clear hB hO n1 n2 n3 n4 n5 hk1 hk2 hT1 hT2 hheld hTT hOO hI hrow hT hP
  go_wp2_with fail
  refine hal.mono ?_
  rintro _ w2 ⟨kf, e, T2, O2, rfl, hR2, hO2, hC2⟩
  rw [HN.out.1, HN.out.2.1] at hR2
  rcases hR2 with ⟨hno, _⟩ | ⟨o, ho, _, ⟨hqu, _⟩ | ⟨_, hall, _⟩ | ⟨_, j, rfl, hj, hfj, _, hTj, rfl, hT2, hO2'⟩⟩
  · exact absurd (show isOwn 1 from ⟨by omega, by omega⟩) hno
  · exfalso
    have h1 := ownC_le_held 24 TT OO o
    have h2 := HH.out
    have h3 : ((24 : Nat) : Int) ≤ ownC 24 TT OO o := hqu
    omega
  · exfalso
    have h1 : heldC 24 TT = 24 := cn_full fun i hi => decide_eq_true (hall i hi)
    have h2 := HH.out
    omega
  have ho1 : o = 1 := by omega
  subst ho1
  have hown2 : T2 j = 1 ∧ O2 j = I.o := by rw [hT2, hO2', upF_same, upF_same, HN.out.2.2.1]; exact ⟨rfl, rfl⟩
  have hheld2 : heldC 24 T2 = 4 := by rw [hT2, heldC_new hj hTj (by omega), HH.out]
  have hmp := map_one hO2 (page := q) (j := j) (by omega) true false false rfl (by rw [HN.out.1]; exact hj) (by omega) hown2.2 rfl (by rw [HN.out.1]; omega)
  have hord := HO.out.ex
  obtain ⟨K1, K2, K3, K4, K5, K6, K7, K8, hord⟩ := hord
  have hrow2 := HR1.out.chg hC2 (by simp; omega)
  have HR2 := Lib.hid hrow2
  have HG2 := Lib.hid (hC2.to_grows HG1.out (by simp; omega))
  have HD2 := Lib.hid hheld2
  have c2 : w2.cell? ⟨wb, 2, none⟩ = some (.pointer (some ⟨I.tb, 0, none⟩)) := hrow2.cell 2
  have lt := hrow2.lt
  clear hal hj hfj hTj hT2 hO2' hO2 hC2 hown2 hheld2 hord hrow2 ho c1 HR1 HG1 HH
  go_wp2_with fail
  refine hmp.mono ?_
  rintro _ w3 ⟨er, B3, T3, O3, G3, rfl, hO3, hK3, hR3, hC3⟩
  have hG3 : er = 0 ∧ G3.pg q = some ⟨j, true, false, false⟩ := by
    rcases hR3 with ⟨rfl, _, _, _, rfl⟩ | ⟨rfl, _, t, _, _, _, _, _, _, rfl⟩ | ⟨_, _, hall, _⟩
    · exact ⟨rfl, GS.set_same _ _ _⟩
    · exact ⟨rfl, by rw [GS.setLw_pg, GS.set_same]⟩
    · exfalso
      rw [HN.out.1] at hall
      have h1 : heldC 24 T2 = 24 := cn_full fun i hi => decide_eq_true (hall i hi)
      have h2 := HD2.out
      omega
  obtain ⟨rfl, hG3⟩ := hG3
  obtain ⟨K1, K2, K3, K4, K5, K6, K7, K8, hord⟩ := HO.out.ex
  have hrow3 := HR2.out.chg hC3 (by simp; omega)
  have hAt3 : RgAt W w3 I wb q j true false false := ⟨⟨B3, T3, O3, G3, hO3, hG3⟩, ⟨_, hrow3, rfl, rfl⟩, hC3.to_grows HG2.out (by simp; omega)⟩
  have HA3 := Lib.hid hAt3
  have HJ : Hid (∀ S : List Nat, (∀ k ∈ S, k = I.fp ∨ k = I.bt ∨ k = I.bw ∨ k = I.q ∨ k = I.tb ∨ k = I.bl) → wb ∉ S ∧ ∀ k ∈ S, W.heap.size ≤ k) := Lib.hid (fun S hS => ⟨fun hw => by have := hS _ hw; omega, fun k hk => by have := hS _ hk; omega⟩)
  clear hmp hO3 hK3 hR3 hC3 hG3 hord hrow3 hAt3 HR2 HG2 HD2 c2 lt HO HN
  go_upto_region 9 with fail
  obtain ⟨W4, hW4⟩ : ∃ W4, W4 = w3.alloc (Obj.cells #[.bool true, .bool false, .bool false] 23) := ⟨_, rfl⟩
  obtain ⟨b9, hb9⟩ : ∃ b, b = w3.heap.size := ⟨_, rfl⟩
  rw [← hW4, ← hb9]
  have HR9 : Hid (Row W4 b9 #[.bool true, .bool false, .bool false] 23) := Lib.hid (by rw [hW4]; exact Row.new_at _ _ _ hb9)
  have HA4 := Lib.hid (HA3.out.grows (show Grows w3 W4 by rw [hW4]; exact (Grows.refl _).alloc _))
  have HB9 : Hid (W.heap.size ≤ b9 ∧ (∀ b, b < w3.heap.size → b ≠ b9) ∧ w3.heap.size ≤ b9) := Lib.hid ⟨by have := HA3.out.base.size; omega, (fun b hb => by omega), by omega⟩
  have HLT3 : Hid (I.fp < w3.heap.size ∧ I.bt < w3.heap.size ∧ I.bw < w3.heap.size ∧ I.q < w3.heap.size ∧ I.tb < w3.heap.size ∧ I.bl < w3.heap.size ∧ I.pm < w3.heap.size ∧ wb < w3.heap.size) := Lib.hid (by
    obtain ⟨⟨B, T, O, G, h1, h2⟩, ⟨rr, h3, h4⟩, h5⟩ := HA3.out
    obtain ⟨s, c', L, low, g1, g2⟩ := h1.ex
    have := g1.lts
    exact ⟨this.1, this.2.1, this.2.2.1, this.2.2.2.1, this.2.2.2.2.1, this.2.2.2.2.2, g1.st.mem.plt, h3.lt⟩)
  clear hW4 hb9 HA3
  go_wp2_with fail
  go_loopw [10] (fun u wi => ∃ (i : Nat) (r x1 x2 : Bool), i ≤ m ∧ u = .int .i64 i ∧ RgAt W wi I wb q j r x1 x2 ∧ Row wi b9 #[.bool r, .bool x1, .bool x2] 23) (fun u _ => (m - intOf u).toNat)
  case atStart => exact ⟨0, _, _, _, by omega, rfl, HA4.out, HR9.out⟩
  case round =>
    as_aux_lemma =>
    clear HA4 HR9
    obtain ⟨i, r, x1, x2, hi, rfl, hA, hr9⟩ := hrel
    have HAi := Lib.hid hA
    have HR9 := Lib.hid hr9
    clear hA hr9
    by_cases him : i < m
    · as_aux_lemma =>
      obtain ⟨b, o, rfl, hb, x, d0⟩ := num_at3 hX him
      have HXC := Lib.hid (fun W' (h : Grows W W') => (h.cell hb).trans d0)
      have HBL := Lib.hid (fun W' (h : Grows W W') => h.lt hb)
      have dx := HXC.out _ HAi.out.base
      have dl := HBL.out _ HAi.out.base
      obtain ⟨a1, ha1⟩ : ∃ a, bits .and .i64 x 1 = a := ⟨_, rfl⟩
      obtain ⟨a2, ha2⟩ : ∃ a, bits .and .i64 x 2 = a := ⟨_, rfl⟩
      obtain ⟨a4, ha4⟩ : ∃ a, bits .and .i64 x 4 = a := ⟨_, rfl⟩
      obtain ⟨e1, he1⟩ : ∃ e : Bool, (a1 == 1) = e := ⟨_, rfl⟩
      obtain ⟨e2, he2⟩ : ∃ e : Bool, (a2 == 2) = e := ⟨_, rfl⟩
      obtain ⟨e4, he4⟩ : ∃ e : Bool, (a4 == 4) = e := ⟨_, rfl⟩
      clear hX d0 hb
      go_wp2_with fail
      go_region
      all_goals
        obtain ⟨W5, hW5⟩ : ∃ W5, W5 = (wr.alloc (Obj.cells #[.bool e1, .bool e2, .bool e4] 23)).drew := ⟨_, rfl⟩
        obtain ⟨b11, hb11⟩ : ∃ b, b = wr.heap.size := ⟨_, rfl⟩
        rw [← hW5, ← hb11]
        have hg5 : Grows wr W5 := by rw [hW5]; exact ((Grows.refl _).alloc _).drew
        have hr11 : Row W5 b11 #[.bool e1, .bool e2, .bool e4] 23 := by rw [hW5]; exact (Row.new_at _ _ _ hb11).grows ((Grows.refl _).drew)
        have HA5 := Lib.hid (HAi.out.grows hg5)
        have HR95 := Lib.hid (HR9.out.grows hg5)
        have HR11 := Lib.hid hr11
        have HB11 : Hid (∀ b, b < wr.heap.size → b ≠ b11) := Lib.hid (fun b hb => by omega)
        have HS5 : Hid (w3.heap.size ≤ b11) := Lib.hid (by have := HR9.out.lt; have := HB9.out.2.2; omega)
        have lt11 := hr11.lt
        have y0 : W5.cell? ⟨b11, 0, none⟩ = some (.bool e1) := hr11.cell 0
        have y1 : W5.cell? ⟨b11, 1, none⟩ = some (.bool e2) := hr11.cell 1
        have y2 : W5.cell? ⟨b11, 2, none⟩ = some (.bool e4) := hr11.cell 2
        clear hW5 hb11 hg5 hr11 HAi HR9 dx dl ha1 ha2 ha4 he1 he2 he4 HXC HBL
        go_upto_region 13 with fail
        go_cut [12] (fun s12 wx => s12 = .bool (rightR e1 e2 e4) ∧ wx = W5)
        case first =>
          as_aux_lemma =>
          cases e1 <;> cases e2 <;> cases e4
          all_goals
            go_wp2_with fail
            go_meet
            exact ⟨rfl, rfl⟩
        case rest =>
          as_aux_lemma =>
          obtain ⟨rfl, rfl⟩ := hcut
          have HMP := Lib.hid (fun W' (h : Grows wc W') => (⟨(HA5.out.grows h).row, (HR11.out.grows h).cell 0, (HR11.out.grows h).cell 1, (HR11.out.grows h).cell 2⟩ : (∃ rr : Array Value, Row W' wb rr 65 ∧ rr[0]? = some (.pointer (some ⟨I.pm, 0, none⟩)) ∧ rr[2]? = some (.pointer (some ⟨I.tb, 0, none⟩))) ∧ W'.cell? ⟨b11, 0, none⟩ = some (.bool e1) ∧ W'.cell? ⟨b11, 1, none⟩ = some (.bool e2) ∧ W'.cell? ⟨b11, 2, none⟩ = some (.bool e4)))
          have hcl : ∀ W', Grows wc W' → W'.cell? ⟨wb, 2, none⟩ = some (.pointer (some ⟨I.tb, 0, none⟩)) ∧ W'.cell? ⟨b11, 0, none⟩ = some (.bool e1) ∧ W'.cell? ⟨b11, 1, none⟩ = some (.bool e2) ∧ W'.cell? ⟨b11, 2, none⟩ = some (.bool e4) := fun W' h => by
            obtain ⟨⟨rr, h1, h2, h3⟩, h4⟩ := HMP.out W' h
            exact ⟨by rw [h1.cell]; exact h3, h4⟩
          have HCL := Lib.hid hcl
          have ltw : wb < wc.heap.size := by obtain ⟨rr, h1, _⟩ := HA5.out.row; exact h1.lt
          clear hcl
          obtain ⟨may, hmay⟩ : ∃ may, may = rightR e1 e2 e4 := ⟨_, rfl⟩
          rw [← hmay]
          obtain ⟨ns1, hn1⟩ : ∃ n, n = (if may then e1 else r) := ⟨_, rfl⟩
          obtain ⟨ns2, hn2⟩ : ∃ n, n = (if may then e2 else x1) := ⟨_, rfl⟩
          obtain ⟨ns3, hn3⟩ : ∃ n, n = (if may then e4 else x2) := ⟨_, rfl⟩
          obtain ⟨ev, hev⟩ : ∃ e : Int, e = (if may then 0 else 2) := ⟨_, rfl⟩
          have HPB : Hid (∀ W', Grows wc W' → Calls Tryd.prog 17 #[.pointer (some ⟨I.tb, 0, none⟩), .int .i64 (q : Nat), .agg #[.bool e1, .bool e2, .bool e4]] W' fun e w' => e = .returned (.int .i64 ev) ∧ Chg [I.q] W' w' ∧ RgAt W w' I wb q j ns1 ns2 ns3) := Lib.hid (fun W' h => by
            obtain ⟨⟨B, T, O, G, g1, g2⟩, ⟨rr, g3, g4⟩, g5⟩ := HA5.out.grows h
            have hj := HJ.out [I.q] (fun k hk => by simp at hk; omega)
            cases may
            · rw [hev, hn1, hn2, hn3]
              refine (protect_bad g1 (q : Int) e1 e2 e4 hmay.symm).mono ?_
              rintro _ w' ⟨rfl, hg⟩
              exact ⟨rfl, Chg.of_grows hg, ⟨⟨B, T, O, G, g1.grows hg, g2⟩, ⟨rr, g3.grows hg, g4⟩, g5.trans hg⟩⟩
            · rw [hev, hn1, hn2, hn3]
              refine (protect_one g1 (page := q) (by omega) e1 e2 e4 hmay.symm g2).mono ?_
              rintro _ w' ⟨rfl, ⟨B', hO, _⟩, hC⟩
              exact ⟨rfl, hC, ⟨⟨B', T, O, _, hO, GS.set_same _ _ _⟩, ⟨rr, g3.chg hC hj.1, g4⟩, hC.to_grows g5 hj.2⟩⟩)
          have hb9q : b9 ∉ [I.q] ∧ b11 ∉ [I.q] := by
            have h1 := HB9.out.2.1 I.q HLT3.out.2.2.2.1
            have h2 := HLT3.out.2.2.2.1
            have h3 := HS5.out
            simp; omega
          have HQ := Lib.hid hb9q
          have HN1 := Lib.hid hn1
          have HN2 := Lib.hid hn2
          have HN3 := Lib.hid hn3
          have HEV := Lib.hid hev
          clear hmay hn1 hn2 hn3 hev hb9q HMP
          go_upto_region 14 with fail
          go_cut [13] (fun s13 wx => s13 = .int .i64 ev ∧ RgAt W wx I wb q j ns1 ns2 ns3 ∧ Row wx b9 #[.bool r, .bool x1, .bool x2] 23 ∧ Row wx b11 #[.bool e1, .bool e2, .bool e4] 23)
          case first =>
            as_aux_lemma =>
            have HC6L := Lib.hid (fun W' (h : RgAt W W' I wb q j ns1 ns2 ns3) (h11 : Row W' b11 #[.bool e1, .bool e2, .bool e4] 23) => (⟨(by obtain ⟨rr, h1, _, h3⟩ := h.row; rw [h1.cell]; exact h3), h11.cell 0, h11.cell 1, h11.cell 2⟩ : W'.cell? ⟨wb, 2, none⟩ = some (.pointer (some ⟨I.tb, 0, none⟩)) ∧ W'.cell? ⟨b11, 0, none⟩ = some (.bool e1) ∧ W'.cell? ⟨b11, 1, none⟩ = some (.bool e2) ∧ W'.cell? ⟨b11, 2, none⟩ = some (.bool e4)))
            go_region_held3 (fun w' => w'.cell? ⟨wb, 2, none⟩ = some (.pointer (some ⟨I.tb, 0, none⟩)) ∧ w'.cell? ⟨b11, 0, none⟩ = some (.bool e1) ∧ w'.cell? ⟨b11, 1, none⟩ = some (.bool e2) ∧ w'.cell? ⟨b11, 2, none⟩ = some (.bool e4)) (first
              | with_reducible exact HC6L.out _ HA6.out HR6.out
              | with_reducible exact HCL.out _ ((Grows.refl _).drew)) (first
              | (go_at_call 17; refine (HPB.out _ ((Grows.refl _).drew)).mono ?_; rintro _ w6 ⟨rfl, hC6, hA6⟩
                 have HA6 : Hid (RgAt W w6 I wb q j ns1 ns2 ns3) := Lib.hid hA6
                 have HR6 : Hid (Row w6 b11 #[.bool e1, .bool e2, .bool e4] 23) := Lib.hid ((HR11.out.grows ((Grows.refl _).drew)).chg hC6 HQ.out.2)
                 have HR69 : Hid (Row w6 b9 #[.bool r, .bool x1, .bool x2] 23) := Lib.hid ((HR95.out.grows ((Grows.refl _).drew)).chg hC6 HQ.out.1)
                 clear hC6 hA6))
            all_goals
              go_wp2_with fail
              go_meet
              exact ⟨rfl, HA6.out, HR69.out, HR6.out⟩
          case rest =>
            as_aux_lemma =>
            obtain ⟨rfl, hA6, hR69, hR6⟩ := hcut
            have HA6 := Lib.hid hA6
            have HR69 := Lib.hid hR69
            have HR6 := Lib.hid hR6
            clear hA6 hR69 hR6 HCL HPB HA5 HR95 HR11 lt11 y0 y1 y2 ltw
            go_upto_region 15 with fail
            obtain ⟨W6, hW6⟩ : ∃ W6, W6 = wc := ⟨_, rfl⟩
            rw [← hW6]
            rw [← hW6] at HA6 HR69 HR6
            clear hW6
            go_cut [112] (fun s112 wx => s112 = .bool false ∧ wx = W6)
            case first =>
              as_aux_lemma =>
              have hev := HEV.out
              cases may
              · simp only [Bool.false_eq_true, if_false] at hev
                subst hev
                go_wp2_with fail
                go_meet
                exact ⟨rfl, rfl⟩
              · simp only [if_true] at hev
                subst hev
                go_wp2_with fail
                go_meet
                exact ⟨rfl, rfl⟩
            case rest =>
              as_aux_lemma =>
              obtain ⟨rfl, rfl⟩ := hcut
              have l11 := HR6.out.lt
              have l9 := HR69.out.lt
              have y0 : wc.cell? ⟨b11, 0, none⟩ = some (.bool e1) := HR6.out.cell 0
              have y1 : wc.cell? ⟨b11, 1, none⟩ = some (.bool e2) := HR6.out.cell 1
              have y2 : wc.cell? ⟨b11, 2, none⟩ = some (.bool e4) := HR6.out.cell 2
              have x0 : wc.cell? ⟨b9, 0, none⟩ = some (.bool r) := HR69.out.cell 0
              have x1' : wc.cell? ⟨b9, 1, none⟩ = some (.bool x1) := HR69.out.cell 1
              have x2' : wc.cell? ⟨b9, 2, none⟩ = some (.bool x2) := HR69.out.cell 2
              have f0 := HR69.out.frozen 0
              have f1 := HR69.out.frozen 1
              have f2 := HR69.out.frozen 2
              go_upto_if 113 with fail
              go_cut [] (fun wx => RgAt W wx I wb q j ns1 ns2 ns3 ∧ Row wx b9 #[.bool ns1, .bool ns2, .bool ns3] 23)
              case first =>
                as_aux_lemma =>
                have hn1 := HN1.out
                have hn2 := HN2.out
                have hn3 := HN3.out
                cases may
                · simp only [Bool.false_eq_true, if_false] at hn1 hn2 hn3
                  subst hn1
                  subst hn2
                  subst hn3
                  go_wp2_with fail
                  go_meet
                  exact ⟨HA6.out, HR69.out⟩
                · simp only [if_true] at hn1 hn2 hn3
                  subst hn1
                  subst hn2
                  subst hn3
                  go_wp2_with fail
                  go_meet
                  have e0 := row_setCell HR69.out (i := 0) (by simp) (.bool ns1)
                  have e1' := row_setCell e0 (i := 1) (by simp) (.bool ns2)
                  have e2' := row_setCell e1' (i := 2) (by simp) (.bool ns3)
                  exact ⟨HA6.out.chgb ((((Chg.refl _ _).setCell (Or.inl (by simp)) _ _).setCell (Or.inl (by simp)) _ _).setCell (Or.inl (by simp)) _ _) HLT3.out HB9.out.2.2 HZ.out HB9.out.1, by simpa using e2'⟩
              case rest =>
                as_aux_lemma =>
                obtain ⟨hAt, hRt⟩ := hcut
                have HAt := Lib.hid hAt
                have HRt := Lib.hid hRt
                clear hAt hRt HA6 HR69 HR6 l11 l9 y0 y1 y2 x0 x1' x2' f0 f1 f2 HN1 HN2 HN3 HEV
                obtain ⟨B, T, O, G, hO, hG⟩ := HAt.out.one
                have hlk := look_one hO (page := q) (by omega)
                rw [hG] at hlk
                dsimp only at hlk
                have c2 : wc.cell? ⟨wb, 2, none⟩ = some (.pointer (some ⟨I.tb, 0, none⟩)) := by obtain ⟨rr, h1, _, h3⟩ := HAt.out.row; rw [h1.cell]; exact h3
                have ltw : wb < wc.heap.size := by obtain ⟨rr, h1, _⟩ := HAt.out.row; exact h1.lt
                go_wp2_with fail
                refine hlk.mono ?_
                rintro _ w7 ⟨rfl, hg7⟩
                clear hlk c2 ltw
                go_upto_region 20 with fail
                obtain ⟨W8, hW8⟩ : ∃ W8, W8 = w7.alloc (Obj.cells #[.bool ns1, .bool ns2, .bool ns3] 23) := ⟨_, rfl⟩
                obtain ⟨b15, hb15⟩ : ∃ b, b = w7.heap.size := ⟨_, rfl⟩
                rw [← hW8, ← hb15]
                have hr15 : Row W8 b15 #[.bool ns1, .bool ns2, .bool ns3] 23 := by rw [hW8]; exact Row.new_at _ _ _ hb15
                have HGO : Hid (Grows wc W8) := Lib.hid (by rw [hW8]; exact hg7.alloc _)
                have HA8 := Lib.hid (HAt.out.grows HGO.out)
                have hr9 := HRt.out.grows HGO.out
                have HR98 := Lib.hid hr9
                have l15 := hr15.lt
                have l9 := hr9.lt
                have p0 : W8.cell? ⟨b15, 0, none⟩ = some (.bool ns1) := hr15.cell 0
                have p1 : W8.cell? ⟨b15, 1, none⟩ = some (.bool ns2) := hr15.cell 1
                have p2 : W8.cell? ⟨b15, 2, none⟩ = some (.bool ns3) := hr15.cell 2
                have q0 : W8.cell? ⟨b9, 0, none⟩ = some (.bool ns1) := hr9.cell 0
                have q1 : W8.cell? ⟨b9, 1, none⟩ = some (.bool ns2) := hr9.cell 1
                have q2 : W8.cell? ⟨b9, 2, none⟩ = some (.bool ns3) := hr9.cell 2
                have hnq := fun w => neq_rr ns1 ns2 ns3 ns1 ns2 ns3 w
                simp only [beq_self_eq_true, Bool.and_self, Bool.not_true] at hnq
                clear hW8 hb15 hg7 hr15 hr9
                go_upto_region 22 with fail
                clear p0 p1 p2 q0 q1 q2 l15 l9 hnq
                have HRO := Lib.hid (fun W' (h : Grows W8 W') => root_one' (hO.grows (HGO.out.trans h)))
                have hwo := (fun W' (h : Grows W8 W') => walk_one (hO.grows (HGO.out.trans h)) (page := q) (by omega) 1)
                rw [wfnd_some hG] at hwo
                unfold rdr at hwo
                have wm : IntKind.i64.wrap (256 * (q : Int)) = ((256 * q : Nat) : Int) := by rw [IntKind.wrap_i64]; omega
                have wu : IntKind.u64.wrap ((256 * q : Nat) : Int) = ((256 * q : Nat) : Int) := by rw [IntKind.wrap_u64]; omega
                obtain ⟨AA, hAA⟩ : ∃ AA : Nat, AA = 256 * q := ⟨_, rfl⟩
                rw [← hAA] at hwo wm wu
                obtain ⟨fn, fk, fb1, fb2, fb3, fb4, hfn⟩ := fndA_row (wfnd G q 1)
                rw [hfn] at hwo
                have HWO := Lib.hid hwo
                have HCW := Lib.hid (fun W' (h : Grows W8 W') => (by
                  obtain ⟨rr, h1, h2, h3⟩ := (HA8.out.grows h).row
                  exact ⟨by rw [h1.cell]; exact h2, by rw [h1.cell]; exact h3⟩ : W'.cell? ⟨wb, 0, none⟩ = some (.pointer (some ⟨I.pm, 0, none⟩)) ∧ W'.cell? ⟨wb, 2, none⟩ = some (.pointer (some ⟨I.tb, 0, none⟩))))
                have ltw : wb < W8.heap.size := by obtain ⟨rr, h1, _⟩ := HA8.out.row; exact h1.lt
                clear hfn hwo hAA
                go_cut [18] (fun s18 wx => s18 = .bool ns1 ∧ Grows W8 wx)
                case first =>
                  as_aux_lemma =>
                  have hc0 : ∀ w, Grows W8 w → w.cell? ⟨wb, 0, none⟩ = some (.pointer (some ⟨I.pm, 0, none⟩)) := fun w h => (HCW.out w h).1
                  have hc2 : ∀ w, Grows W8 w → w.cell? ⟨wb, 2, none⟩ = some (.pointer (some ⟨I.tb, 0, none⟩)) := fun w h => (HCW.out w h).2
                  refine wp_region_held_drew (S := fun w' => Grows W8 w') (by kernel_rfl) (Grows.refl _).drew (fun hHeld => ?_)
                  refine wpAnyH_take (i := 0) (v := ?_) rfl (by kernel_rfl) (by kernel_rfl) (by kernel_rfl) (fun _ _ _ h => h) (Or.inl ⟨by rfl, ?_⟩) (by assumption) ?_
                  rotate_left
                  · intro w hSw
                    go_simp
                    try with_reducible rfl
                  simp only [List.getElem_toArray, List.getElem_cons_succ, List.getElem_cons_zero, Act.put, List.setIfInBounds_toArray, List.set_cons_zero, List.set_cons_succ]
                  refine wpAnyH_take (i := 1) (v := ?_) rfl (by kernel_rfl) (by kernel_rfl) (by kernel_rfl) (fun _ _ _ h => h) (Or.inl ⟨by rfl, ?_⟩) (by assumption) ?_
                  rotate_left
                  · intro w hSw
                    go_simp
                    try with_reducible rfl
                  simp only [List.getElem_toArray, List.getElem_cons_succ, List.getElem_cons_zero, Act.put, List.setIfInBounds_toArray, List.set_cons_zero, List.set_cons_succ]
                  refine wpAnyH_take (i := 2) (v := ?_) rfl (by kernel_rfl) (by kernel_rfl) (by kernel_rfl) (fun _ _ _ h => h) (Or.inl ⟨by rfl, ?_⟩) (by assumption) ?_
                  rotate_left
                  · intro w hSw
                    go_simp
                    try with_reducible rfl
                  simp only [List.getElem_toArray, List.getElem_cons_succ, List.getElem_cons_zero, Act.put, List.setIfInBounds_toArray, List.set_cons_zero, List.set_cons_succ]
                  refine wpAnyH_take (i := 3) (v := ?_) rfl (by kernel_rfl) (by kernel_rfl) (by kernel_rfl) (fun _ _ _ h => h) (Or.inl ⟨by rfl, ?_⟩) (by assumption) ?_
                  rotate_left
                  · intro w hSw
                    go_simp
                    try with_reducible rfl
                  simp only [List.getElem_toArray, List.getElem_cons_succ, List.getElem_cons_zero, Act.put, List.setIfInBounds_toArray, List.set_cons_zero, List.set_cons_succ]
                  refine wpAnyH_take (i := 4) (v := ?_) rfl (by kernel_rfl) (by kernel_rfl) (by kernel_rfl) (fun _ _ _ h => h) (Or.inl ⟨by rfl, ?_⟩) (by assumption) ?_
                  rotate_left
                  · intro w hSw
                    go_simp
                    try with_reducible rfl
                  simp only [List.getElem_toArray, List.getElem_cons_succ, List.getElem_cons_zero, Act.put, List.setIfInBounds_toArray, List.set_cons_zero, List.set_cons_succ]
                  refine wpAnyH_take (i := 5) (v := ?_) rfl (by kernel_rfl) (by kernel_rfl) (by kernel_rfl) (fun _ _ _ h => h) (Or.inl ⟨by rfl, ?_⟩) (by assumption) ?_
                  rotate_left
                  · intro w hSw
                    go_simp
                    try with_reducible rfl
                  simp only [List.getElem_toArray, List.getElem_cons_succ, List.getElem_cons_zero, Act.put, List.setIfInBounds_toArray, List.set_cons_zero, List.set_cons_succ]
                  refine wpAnyH_take (i := 6) (v := ?_) rfl (by kernel_rfl) (by kernel_rfl) (by kernel_rfl) (fun _ _ _ h => h) (Or.inl ⟨by rfl, ?_⟩) (by assumption) ?_
                  rotate_left
                  · intro w hSw
                    go_simp
                    try with_reducible rfl
                  simp only [List.getElem_toArray, List.getElem_cons_succ, List.getElem_cons_zero, Act.put, List.setIfInBounds_toArray, List.set_cons_zero, List.set_cons_succ]
                  refine wpAnyH_take (i := 7) (v := ?_) rfl (by kernel_rfl) (by kernel_rfl) (by kernel_rfl) (fun _ _ _ h => h) (Or.inl ⟨by rfl, ?_⟩) (by assumption) ?_
                  rotate_left
                  · intro w hSw
                    go_simp
                    try with_reducible rfl
                  simp only [List.getElem_toArray, List.getElem_cons_succ, List.getElem_cons_zero, Act.put, List.setIfInBounds_toArray, List.set_cons_zero, List.set_cons_succ]
                  refine wpAnyH_take (i := 8) (v := ?_) rfl (by kernel_rfl) (by kernel_rfl) (by kernel_rfl) (fun _ _ _ h => h) (Or.inl ⟨by rfl, ?_⟩) (by assumption) ?_
                  rotate_left
                  · intro w hSw
                    go_simp
                    try with_reducible rfl
                  simp only [List.getElem_toArray, List.getElem_cons_succ, List.getElem_cons_zero, Act.put, List.setIfInBounds_toArray, List.set_cons_zero, List.set_cons_succ]
                  refine wpAnyH_take (i := 9) (v := ?_) rfl (by kernel_rfl) (by kernel_rfl) (by kernel_rfl) (fun _ _ _ h => h) (Or.inl ⟨by rfl, ?_⟩) (by assumption) ?_
                  rotate_left
                  · intro w hSw
                    go_simp
                    try with_reducible rfl
                  simp only [List.getElem_toArray, List.getElem_cons_succ, List.getElem_cons_zero, Act.put, List.setIfInBounds_toArray, List.set_cons_zero, List.set_cons_succ]
                  refine wpAnyH_take (i := 11) (v := ?_) rfl (by kernel_rfl) (by kernel_rfl) (by kernel_rfl) (fun _ _ _ h => h) (Or.inl ⟨by rfl, ?_⟩) (by assumption) ?_
                  rotate_left
                  · intro w hSw
                    go_simp
                    try with_reducible rfl
                  simp only [List.getElem_toArray, List.getElem_cons_succ, List.getElem_cons_zero, Act.put, List.setIfInBounds_toArray, List.set_cons_zero, List.set_cons_succ]
                  refine wpAnyH_take (i := 12) (v := ?_) rfl (by kernel_rfl) (by kernel_rfl) (by kernel_rfl) (fun _ _ _ h => h) (Or.inl ⟨by rfl, ?_⟩) (by assumption) ?_
                  rotate_left
                  · intro w hSw
                    go_simp
                    try with_reducible rfl
                  simp only [List.getElem_toArray, List.getElem_cons_succ, List.getElem_cons_zero, Act.put, List.setIfInBounds_toArray, List.set_cons_zero, List.set_cons_succ]
                  refine wpAnyH_take (i := 13) (v := ?_) rfl (by kernel_rfl) (by kernel_rfl) (by kernel_rfl) (fun _ _ _ h => h) (Or.inl ⟨by rfl, ?_⟩) (by assumption) ?_
                  rotate_left
                  · intro w hSw
                    go_simp
                    try with_reducible rfl
                  simp only [List.getElem_toArray, List.getElem_cons_succ, List.getElem_cons_zero, Act.put, List.setIfInBounds_toArray, List.set_cons_zero, List.set_cons_succ]
                  refine wpAnyH_ready (rs := [10, 18]) (by kernel_rfl) (by simp) ?_
                  refine AllReadyH.cons rfl (fun K hK => ?_) (AllReadyH.cons rfl (fun K hK => ?_) AllReadyH.nil)
                  · go_simp
                    refine (HRO.out _ hHeld).mono ?_
                    rintro _ w9 ⟨rfl, hg9⟩
                    go_wp2_with fail
                    refine hK.out _ _ (hHeld.trans hg9) (fun hHeld2 => ?_)
                    clear hK K hHeld
                    refine wpAnyH_ready (rs := [14, 18]) (by kernel_rfl) (by simp) ?_
                    refine AllReadyH.cons rfl (fun K hK => ?_) (AllReadyH.cons rfl (fun K hK => ?_) AllReadyH.nil)
                    · go_simp
                      refine (HWO.out _ hHeld2).mono ?_
                      rintro _ w10 ⟨rfl, hg10⟩
                      go_wp2_with fail
                      refine hK.out _ _ (hHeld2.trans hg10) (fun hHeld3 => ?_)
                      clear hK K hHeld2
                      refine wpAnyH_take (i := 15) (v := ?_) rfl (by kernel_rfl) (by kernel_rfl) (by kernel_rfl) (fun _ _ _ h => h) (Or.inl ⟨by rfl, ?_⟩) (by assumption) ?_
                      rotate_left
                      · intro w hSw
                        go_simp
                        try with_reducible rfl
                      simp only [List.getElem_toArray, List.getElem_cons_succ, List.getElem_cons_zero, Act.put, List.setIfInBounds_toArray, List.set_cons_zero, List.set_cons_succ]
                      refine wpAnyH_take (i := 16) (v := ?_) rfl (by kernel_rfl) (by kernel_rfl) (by kernel_rfl) (fun _ _ _ h => h) (Or.inl ⟨by rfl, ?_⟩) (by assumption) ?_
                      rotate_left
                      · intro w hSw
                        go_simp
                        try with_reducible rfl
                      simp only [List.getElem_toArray, List.getElem_cons_succ, List.getElem_cons_zero, Act.put, List.setIfInBounds_toArray, List.set_cons_zero, List.set_cons_succ]
                      refine wpAnyH_take (i := 17) (v := ?_) rfl (by kernel_rfl) (by kernel_rfl) (by kernel_rfl) (fun _ _ _ h => h) (Or.inl ⟨by rfl, ?_⟩) (by assumption) ?_
                      rotate_left
                      · intro w hSw
                        go_simp
                        try with_reducible rfl
                      simp only [List.getElem_toArray, List.getElem_cons_succ, List.getElem_cons_zero, Act.put, List.setIfInBounds_toArray, List.set_cons_zero, List.set_cons_succ]
                      refine wpAnyH_ready (rs := [18]) (by kernel_rfl) (by simp) ?_
                      refine AllReadyH.cons rfl (fun K hK => ?_) AllReadyH.nil
                      go_simp
                      refine hK.out _ _ (hHeld3.alloc _) (fun hHeldF => ?_)
                      clear hK K
                      have hr17 := Row.new w10 #[.int .i64 0, .bool false, .bool false, .bool false, .bool false, .int .i64 0] 79
                      obtain ⟨b17, hb17⟩ : ∃ b, b = w10.heap.size := ⟨_, rfl⟩
                      have hbF : (W8).heap.size ≤ b17 := by have := hHeld3.size; omega
                      obtain ⟨w11, hw11⟩ : ∃ w, w = w10.alloc (Obj.cells #[.int .i64 0, .bool false, .bool false, .bool false, .bool false, .int .i64 0] 79) := ⟨_, rfl⟩
                      rw [← hb17, ← hw11] at hr17
                      rw [← hw11] at hHeldF
                      rw [← hb17, ← hw11]
                      clear hb17 hw11 hHeld3
                      have l17 := hr17.lt
                      have z0 : w11.cell? ⟨b17, 0, none⟩ = some (.int .i64 0) := hr17.cell 0
                      have z1 : w11.cell? ⟨b17, 1, none⟩ = some (.bool false) := hr17.cell 1
                      have z2 : w11.cell? ⟨b17, 2, none⟩ = some (.bool false) := hr17.cell 2
                      have z3 : w11.cell? ⟨b17, 3, none⟩ = some (.bool false) := hr17.cell 3
                      have z4 : w11.cell? ⟨b17, 4, none⟩ = some (.bool false) := hr17.cell 4
                      have z5 : w11.cell? ⟨b17, 5, none⟩ = some (.int .i64 0) := hr17.cell 5
                      have f0 := hr17.frozen 0
                      have f1 := hr17.frozen 1
                      have f2 := hr17.frozen 2
                      have f3 := hr17.frozen 3
                      have f4 := hr17.frozen 4
                      have f5 := hr17.frozen 5
                      refine wpAnyH_ready (rs := [19]) (by kernel_rfl) (by simp) ?_
                      refine AllReadyH.cons rfl (fun K hK => ?_) AllReadyH.nil
                      go_simp
                      refine hK.out _ _ ((((((hHeldF.setCell hbF _).setCell hbF _).setCell hbF _).setCell hbF _).setCell hbF _).setCell hbF _) (fun hHeldZ => ?_)
                      clear hK K hHeldF z0 z1 z2 z3 z4 z5 f0 f1 f2 f3 f4 f5 l17 hr17
                      refine wpAnyH_take (i := 20) (v := ?_) rfl (by kernel_rfl) (by kernel_rfl) (by kernel_rfl) (fun _ _ _ h => h) (Or.inl ⟨by rfl, ?_⟩) (by assumption) ?_
                      rotate_left
                      · intro w hSw
                        go_simp
                        try with_reducible rfl
                      simp only [List.getElem_toArray, List.getElem_cons_succ, List.getElem_cons_zero, Act.put, List.setIfInBounds_toArray, List.set_cons_zero, List.set_cons_succ]
                      refine wpAnyH_done (by kernel_rfl) ?_ _
                      go_wp2_with fail
                      go_meet
                      exact ⟨rfl, hHeldZ⟩
                    · go_simp
                      refine hK.out _ _ (hHeld2.alloc _) (fun hHeld3 => ?_)
                      clear hK K
                      have hr17 := Row.new w9 #[.int .i64 0, .bool false, .bool false, .bool false, .bool false, .int .i64 0] 79
                      obtain ⟨b17, hb17⟩ : ∃ b, b = w9.heap.size := ⟨_, rfl⟩
                      have hbF : (W8).heap.size ≤ b17 := by have := hHeld2.size; omega
                      obtain ⟨w11, hw11⟩ : ∃ w, w = w9.alloc (Obj.cells #[.int .i64 0, .bool false, .bool false, .bool false, .bool false, .int .i64 0] 79) := ⟨_, rfl⟩
                      rw [← hb17, ← hw11] at hr17
                      rw [← hw11] at hHeld3
                      rw [← hb17, ← hw11]
                      clear hb17 hw11 hHeld2
                      refine wpAnyH_ready (rs := [14]) (by kernel_rfl) (by simp) ?_
                      refine AllReadyH.cons rfl (fun K hK => ?_) AllReadyH.nil
                      go_simp
                      refine (HWO.out _ hHeld3).mono ?_
                      rintro _ w10 ⟨rfl, hg10⟩
                      go_wp2_with fail
                      refine hK.out _ _ (hHeld3.trans hg10) (fun hHeldF => ?_)
                      clear hK K hHeld3
                      have hr17 := hr17.grows hg10
                      clear hg10
                      refine wpAnyH_take (i := 15) (v := ?_) rfl (by kernel_rfl) (by kernel_rfl) (by kernel_rfl) (fun _ _ _ h => h) (Or.inl ⟨by rfl, ?_⟩) (by assumption) ?_
                      rotate_left
                      · intro w hSw
                        go_simp
                        try with_reducible rfl
                      simp only [List.getElem_toArray, List.getElem_cons_succ, List.getElem_cons_zero, Act.put, List.setIfInBounds_toArray, List.set_cons_zero, List.set_cons_succ]
                      refine wpAnyH_take (i := 16) (v := ?_) rfl (by kernel_rfl) (by kernel_rfl) (by kernel_rfl) (fun _ _ _ h => h) (Or.inl ⟨by rfl, ?_⟩) (by assumption) ?_
                      rotate_left
                      · intro w hSw
                        go_simp
                        try with_reducible rfl
                      simp only [List.getElem_toArray, List.getElem_cons_succ, List.getElem_cons_zero, Act.put, List.setIfInBounds_toArray, List.set_cons_zero, List.set_cons_succ]
                      refine wpAnyH_take (i := 17) (v := ?_) rfl (by kernel_rfl) (by kernel_rfl) (by kernel_rfl) (fun _ _ _ h => h) (Or.inl ⟨by rfl, ?_⟩) (by assumption) ?_
                      rotate_left
                      · intro w hSw
                        go_simp
                        try with_reducible rfl
                      simp only [List.getElem_toArray, List.getElem_cons_succ, List.getElem_cons_zero, Act.put, List.setIfInBounds_toArray, List.set_cons_zero, List.set_cons_succ]
                      have l17 := hr17.lt
                      have z0 : w10.cell? ⟨b17, 0, none⟩ = some (.int .i64 0) := hr17.cell 0
                      have z1 : w10.cell? ⟨b17, 1, none⟩ = some (.bool false) := hr17.cell 1
                      have z2 : w10.cell? ⟨b17, 2, none⟩ = some (.bool false) := hr17.cell 2
                      have z3 : w10.cell? ⟨b17, 3, none⟩ = some (.bool false) := hr17.cell 3
                      have z4 : w10.cell? ⟨b17, 4, none⟩ = some (.bool false) := hr17.cell 4
                      have z5 : w10.cell? ⟨b17, 5, none⟩ = some (.int .i64 0) := hr17.cell 5
                      have f0 := hr17.frozen 0
                      have f1 := hr17.frozen 1
                      have f2 := hr17.frozen 2
                      have f3 := hr17.frozen 3
                      have f4 := hr17.frozen 4
                      have f5 := hr17.frozen 5
                      refine wpAnyH_ready (rs := [19]) (by kernel_rfl) (by simp) ?_
                      refine AllReadyH.cons rfl (fun K hK => ?_) AllReadyH.nil
                      go_simp
                      refine hK.out _ _ ((((((hHeldF.setCell hbF _).setCell hbF _).setCell hbF _).setCell hbF _).setCell hbF _).setCell hbF _) (fun hHeldZ => ?_)
                      clear hK K hHeldF z0 z1 z2 z3 z4 z5 f0 f1 f2 f3 f4 f5 l17 hr17
                      refine wpAnyH_take (i := 20) (v := ?_) rfl (by kernel_rfl) (by kernel_rfl) (by kernel_rfl) (fun _ _ _ h => h) (Or.inl ⟨by rfl, ?_⟩) (by assumption) ?_
                      rotate_left
                      · intro w hSw
                        go_simp
                        try with_reducible rfl
                      simp only [List.getElem_toArray, List.getElem_cons_succ, List.getElem_cons_zero, Act.put, List.setIfInBounds_toArray, List.set_cons_zero, List.set_cons_succ]
                      refine wpAnyH_done (by kernel_rfl) ?_ _
                      go_wp2_with fail
                      go_meet
                      exact ⟨rfl, hHeldZ⟩
                  · go_simp
                    refine hK.out _ _ (hHeld.alloc _) (fun hHeld3 => ?_)
                    clear hK K
                    have hr17 := Row.new (W8).drew #[.int .i64 0, .bool false, .bool false, .bool false, .bool false, .int .i64 0] 79
                    obtain ⟨b17, hb17⟩ : ∃ b, b = (W8).heap.size := ⟨_, rfl⟩
                    have hbF : (W8).heap.size ≤ b17 := by omega
                    obtain ⟨w11, hw11⟩ : ∃ w, w = ((W8).alloc (Obj.cells #[.int .i64 0, .bool false, .bool false, .bool false, .bool false, .int .i64 0] 79)).drew := ⟨_, rfl⟩
                    have hr17 : Row w11 b17 #[.int .i64 0, .bool false, .bool false, .bool false, .bool false, .int .i64 0] 79 := by rw [hw11, hb17]; exact (Row.new W8 _ _).grows ((Grows.refl _).drew)
                    have hHeld3 : Grows W8 w11 := by rw [hw11]; exact ((Grows.refl _).alloc _).drew
                    rw [← hb17]
                    change wpAnyH _ _ _ _ _ _ _ _ (((W8).alloc (Obj.cells #[.int .i64 0, .bool false, .bool false, .bool false, .bool false, .int .i64 0] 79)).drew)
                    rw [← hw11]
                    clear hb17 hw11 hHeld
                    refine wpAnyH_ready (rs := [10]) (by kernel_rfl) (by simp) ?_
                    refine AllReadyH.cons rfl (fun K hK => ?_) AllReadyH.nil
                    go_simp
                    refine (HRO.out _ hHeld3).mono ?_
                    rintro _ w9 ⟨rfl, hg9⟩
                    go_wp2_with fail
                    refine hK.out _ _ (hHeld3.trans hg9) (fun hHeld4 => ?_)
                    clear hK K hHeld3
                    have hr17 := hr17.grows hg9
                    clear hg9
                    refine wpAnyH_ready (rs := [14]) (by kernel_rfl) (by simp) ?_
                    refine AllReadyH.cons rfl (fun K hK => ?_) AllReadyH.nil
                    go_simp
                    refine (HWO.out _ hHeld4).mono ?_
                    rintro _ w10 ⟨rfl, hg10⟩
                    go_wp2_with fail
                    refine hK.out _ _ (hHeld4.trans hg10) (fun hHeldF => ?_)
                    clear hK K hHeld4
                    have hr17 := hr17.grows hg10
                    clear hg10
                    refine wpAnyH_take (i := 15) (v := ?_) rfl (by kernel_rfl) (by kernel_rfl) (by kernel_rfl) (fun _ _ _ h => h) (Or.inl ⟨by rfl, ?_⟩) (by assumption) ?_
                    rotate_left
                    · intro w hSw
                      go_simp
                      try with_reducible rfl
                    simp only [List.getElem_toArray, List.getElem_cons_succ, List.getElem_cons_zero, Act.put, List.setIfInBounds_toArray, List.set_cons_zero, List.set_cons_succ]
                    refine wpAnyH_take (i := 16) (v := ?_) rfl (by kernel_rfl) (by kernel_rfl) (by kernel_rfl) (fun _ _ _ h => h) (Or.inl ⟨by rfl, ?_⟩) (by assumption) ?_
                    rotate_left
                    · intro w hSw
                      go_simp
                      try with_reducible rfl
                    simp only [List.getElem_toArray, List.getElem_cons_succ, List.getElem_cons_zero, Act.put, List.setIfInBounds_toArray, List.set_cons_zero, List.set_cons_succ]
                    refine wpAnyH_take (i := 17) (v := ?_) rfl (by kernel_rfl) (by kernel_rfl) (by kernel_rfl) (fun _ _ _ h => h) (Or.inl ⟨by rfl, ?_⟩) (by assumption) ?_
                    rotate_left
                    · intro w hSw
                      go_simp
                      try with_reducible rfl
                    simp only [List.getElem_toArray, List.getElem_cons_succ, List.getElem_cons_zero, Act.put, List.setIfInBounds_toArray, List.set_cons_zero, List.set_cons_succ]
                    have l17 := hr17.lt
                    have z0 : w10.cell? ⟨b17, 0, none⟩ = some (.int .i64 0) := hr17.cell 0
                    have z1 : w10.cell? ⟨b17, 1, none⟩ = some (.bool false) := hr17.cell 1
                    have z2 : w10.cell? ⟨b17, 2, none⟩ = some (.bool false) := hr17.cell 2
                    have z3 : w10.cell? ⟨b17, 3, none⟩ = some (.bool false) := hr17.cell 3
                    have z4 : w10.cell? ⟨b17, 4, none⟩ = some (.bool false) := hr17.cell 4
                    have z5 : w10.cell? ⟨b17, 5, none⟩ = some (.int .i64 0) := hr17.cell 5
                    have f0 := hr17.frozen 0
                    have f1 := hr17.frozen 1
                    have f2 := hr17.frozen 2
                    have f3 := hr17.frozen 3
                    have f4 := hr17.frozen 4
                    have f5 := hr17.frozen 5
                    refine wpAnyH_ready (rs := [19]) (by kernel_rfl) (by simp) ?_
                    refine AllReadyH.cons rfl (fun K hK => ?_) AllReadyH.nil
                    go_simp
                    refine hK.out _ _ ((((((hHeldF.setCell hbF _).setCell hbF _).setCell hbF _).setCell hbF _).setCell hbF _).setCell hbF _) (fun hHeldZ => ?_)
                    clear hK K hHeldF z0 z1 z2 z3 z4 z5 f0 f1 f2 f3 f4 f5 l17 hr17
                    refine wpAnyH_take (i := 20) (v := ?_) rfl (by kernel_rfl) (by kernel_rfl) (by kernel_rfl) (fun _ _ _ h => h) (Or.inl ⟨by rfl, ?_⟩) (by assumption) ?_
                    rotate_left
                    · intro w hSw
                      go_simp
                      try with_reducible rfl
                    simp only [List.getElem_toArray, List.getElem_cons_succ, List.getElem_cons_zero, Act.put, List.setIfInBounds_toArray, List.set_cons_zero, List.set_cons_succ]
                    refine wpAnyH_done (by kernel_rfl) ?_ _
                    go_wp2_with fail
                    go_meet
                    exact ⟨rfl, hHeldZ⟩
                case rest =>
                  as_aux_lemma =>
                  obtain ⟨rfl, hgW⟩ := hcut
                  have HGW := Lib.hid hgW
                  clear hgW HRO HWO HCW ltw wm wu
                  obtain ⟨W9, hW9⟩ : ∃ W9, W9 = wc := ⟨_, rfl⟩
                  have HGW9 : Hid (Grows W8 W9) := Lib.hid (by rw [hW9]; exact HGW.out)
                  rw [← hW9]
                  clear hW9 HGW
                  have HGO := Lib.hid (HGO.out.trans HGW9.out)
                  have HA9 := Lib.hid (HA8.out.grows HGW9.out)
                  have HR99 := Lib.hid (HR98.out.grows HGW9.out)
                  clear HA8 HR98 HGW9
                  go_upto_region 23 with fail
                  have HRO := Lib.hid (fun W' (h : Grows W9 W') => root_one' (hO.grows (HGO.out.trans h)))
                  have hwo := (fun W' (h : Grows W9 W') => walk_one (hO.grows (HGO.out.trans h)) (page := q) (by omega) 2)
                  rw [wfnd_some hG] at hwo
                  unfold rdr at hwo
                  have wm : IntKind.i64.wrap (256 * (q : Int)) = ((256 * q : Nat) : Int) := by rw [IntKind.wrap_i64]; omega
                  have wu : IntKind.u64.wrap ((256 * q : Nat) : Int) = ((256 * q : Nat) : Int) := by rw [IntKind.wrap_u64]; omega
                  obtain ⟨AA, hAA⟩ : ∃ AA : Nat, AA = 256 * q := ⟨_, rfl⟩
                  rw [← hAA] at hwo wm wu
                  obtain ⟨fn, fk, fb1, fb2, fb3, fb4, hfn⟩ := fndA_row (wfnd G q 2)
                  rw [hfn] at hwo
                  have HWO := Lib.hid hwo
                  have HCW := Lib.hid (fun W' (h : Grows W9 W') => (by
                    obtain ⟨rr, h1, h2, h3⟩ := (HA9.out.grows h).row
                    exact ⟨by rw [h1.cell]; exact h2, by rw [h1.cell]; exact h3⟩ : W'.cell? ⟨wb, 0, none⟩ = some (.pointer (some ⟨I.pm, 0, none⟩)) ∧ W'.cell? ⟨wb, 2, none⟩ = some (.pointer (some ⟨I.tb, 0, none⟩))))
                  have ltw : wb < W9.heap.size := by obtain ⟨rr, h1, _⟩ := HA9.out.row; exact h1.lt
                  clear hfn hwo hAA
                  go_cut [20] (fun s18 wx => s18 = .bool ns2 ∧ Grows W9 wx)
                  case first =>
                    as_aux_lemma =>
                    have hc0 : ∀ w, Grows W9 w → w.cell? ⟨wb, 0, none⟩ = some (.pointer (some ⟨I.pm, 0, none⟩)) := fun w h => (HCW.out w h).1
                    have hc2 : ∀ w, Grows W9 w → w.cell? ⟨wb, 2, none⟩ = some (.pointer (some ⟨I.tb, 0, none⟩)) := fun w h => (HCW.out w h).2
                    refine wp_region_held_drew (S := fun w' => Grows W9 w') (by kernel_rfl) (Grows.refl _).drew (fun hHeld => ?_)
                    refine wpAnyH_take (i := 0) (v := ?_) rfl (by kernel_rfl) (by kernel_rfl) (by kernel_rfl) (fun _ _ _ h => h) (Or.inl ⟨by rfl, ?_⟩) (by assumption) ?_
                    rotate_left
                    · intro w hSw
                      go_simp
                      try with_reducible rfl
                    simp only [List.getElem_toArray, List.getElem_cons_succ, List.getElem_cons_zero, Act.put, List.setIfInBounds_toArray, List.set_cons_zero, List.set_cons_succ]
                    refine wpAnyH_take (i := 1) (v := ?_) rfl (by kernel_rfl) (by kernel_rfl) (by kernel_rfl) (fun _ _ _ h => h) (Or.inl ⟨by rfl, ?_⟩) (by assumption) ?_
                    rotate_left
                    · intro w hSw
                      go_simp
                      try with_reducible rfl
                    simp only [List.getElem_toArray, List.getElem_cons_succ, List.getElem_cons_zero, Act.put, List.setIfInBounds_toArray, List.set_cons_zero, List.set_cons_succ]
                    refine wpAnyH_take (i := 2) (v := ?_) rfl (by kernel_rfl) (by kernel_rfl) (by kernel_rfl) (fun _ _ _ h => h) (Or.inl ⟨by rfl, ?_⟩) (by assumption) ?_
                    rotate_left
                    · intro w hSw
                      go_simp
                      try with_reducible rfl
                    simp only [List.getElem_toArray, List.getElem_cons_succ, List.getElem_cons_zero, Act.put, List.setIfInBounds_toArray, List.set_cons_zero, List.set_cons_succ]
                    refine wpAnyH_take (i := 3) (v := ?_) rfl (by kernel_rfl) (by kernel_rfl) (by kernel_rfl) (fun _ _ _ h => h) (Or.inl ⟨by rfl, ?_⟩) (by assumption) ?_
                    rotate_left
                    · intro w hSw
                      go_simp
                      try with_reducible rfl
                    simp only [List.getElem_toArray, List.getElem_cons_succ, List.getElem_cons_zero, Act.put, List.setIfInBounds_toArray, List.set_cons_zero, List.set_cons_succ]
                    refine wpAnyH_take (i := 4) (v := ?_) rfl (by kernel_rfl) (by kernel_rfl) (by kernel_rfl) (fun _ _ _ h => h) (Or.inl ⟨by rfl, ?_⟩) (by assumption) ?_
                    rotate_left
                    · intro w hSw
                      go_simp
                      try with_reducible rfl
                    simp only [List.getElem_toArray, List.getElem_cons_succ, List.getElem_cons_zero, Act.put, List.setIfInBounds_toArray, List.set_cons_zero, List.set_cons_succ]
                    refine wpAnyH_take (i := 5) (v := ?_) rfl (by kernel_rfl) (by kernel_rfl) (by kernel_rfl) (fun _ _ _ h => h) (Or.inl ⟨by rfl, ?_⟩) (by assumption) ?_
                    rotate_left
                    · intro w hSw
                      go_simp
                      try with_reducible rfl
                    simp only [List.getElem_toArray, List.getElem_cons_succ, List.getElem_cons_zero, Act.put, List.setIfInBounds_toArray, List.set_cons_zero, List.set_cons_succ]
                    refine wpAnyH_take (i := 6) (v := ?_) rfl (by kernel_rfl) (by kernel_rfl) (by kernel_rfl) (fun _ _ _ h => h) (Or.inl ⟨by rfl, ?_⟩) (by assumption) ?_
                    rotate_left
                    · intro w hSw
                      go_simp
                      try with_reducible rfl
                    simp only [List.getElem_toArray, List.getElem_cons_succ, List.getElem_cons_zero, Act.put, List.setIfInBounds_toArray, List.set_cons_zero, List.set_cons_succ]
                    refine wpAnyH_take (i := 7) (v := ?_) rfl (by kernel_rfl) (by kernel_rfl) (by kernel_rfl) (fun _ _ _ h => h) (Or.inl ⟨by rfl, ?_⟩) (by assumption) ?_
                    rotate_left
                    · intro w hSw
                      go_simp
                      try with_reducible rfl
                    simp only [List.getElem_toArray, List.getElem_cons_succ, List.getElem_cons_zero, Act.put, List.setIfInBounds_toArray, List.set_cons_zero, List.set_cons_succ]
                    refine wpAnyH_take (i := 8) (v := ?_) rfl (by kernel_rfl) (by kernel_rfl) (by kernel_rfl) (fun _ _ _ h => h) (Or.inl ⟨by rfl, ?_⟩) (by assumption) ?_
                    rotate_left
                    · intro w hSw
                      go_simp
                      try with_reducible rfl
                    simp only [List.getElem_toArray, List.getElem_cons_succ, List.getElem_cons_zero, Act.put, List.setIfInBounds_toArray, List.set_cons_zero, List.set_cons_succ]
                    refine wpAnyH_take (i := 9) (v := ?_) rfl (by kernel_rfl) (by kernel_rfl) (by kernel_rfl) (fun _ _ _ h => h) (Or.inl ⟨by rfl, ?_⟩) (by assumption) ?_
                    rotate_left
                    · intro w hSw
                      go_simp
                      try with_reducible rfl
                    simp only [List.getElem_toArray, List.getElem_cons_succ, List.getElem_cons_zero, Act.put, List.setIfInBounds_toArray, List.set_cons_zero, List.set_cons_succ]
                    refine wpAnyH_take (i := 11) (v := ?_) rfl (by kernel_rfl) (by kernel_rfl) (by kernel_rfl) (fun _ _ _ h => h) (Or.inl ⟨by rfl, ?_⟩) (by assumption) ?_
                    rotate_left
                    · intro w hSw
                      go_simp
                      try with_reducible rfl
                    simp only [List.getElem_toArray, List.getElem_cons_succ, List.getElem_cons_zero, Act.put, List.setIfInBounds_toArray, List.set_cons_zero, List.set_cons_succ]
                    refine wpAnyH_take (i := 12) (v := ?_) rfl (by kernel_rfl) (by kernel_rfl) (by kernel_rfl) (fun _ _ _ h => h) (Or.inl ⟨by rfl, ?_⟩) (by assumption) ?_
                    rotate_left
                    · intro w hSw
                      go_simp
                      try with_reducible rfl
                    simp only [List.getElem_toArray, List.getElem_cons_succ, List.getElem_cons_zero, Act.put, List.setIfInBounds_toArray, List.set_cons_zero, List.set_cons_succ]
                    refine wpAnyH_take (i := 13) (v := ?_) rfl (by kernel_rfl) (by kernel_rfl) (by kernel_rfl) (fun _ _ _ h => h) (Or.inl ⟨by rfl, ?_⟩) (by assumption) ?_
                    rotate_left
                    · intro w hSw
                      go_simp
                      try with_reducible rfl
                    simp only [List.getElem_toArray, List.getElem_cons_succ, List.getElem_cons_zero, Act.put, List.setIfInBounds_toArray, List.set_cons_zero, List.set_cons_succ]
                    refine wpAnyH_ready (rs := [10, 18]) (by kernel_rfl) (by simp) ?_
                    refine AllReadyH.cons rfl (fun K hK => ?_) (AllReadyH.cons rfl (fun K hK => ?_) AllReadyH.nil)
                    · go_simp
                      refine (HRO.out _ hHeld).mono ?_
                      rintro _ w9 ⟨rfl, hg9⟩
                      go_wp2_with fail
                      refine hK.out _ _ (hHeld.trans hg9) (fun hHeld2 => ?_)
                      clear hK K hHeld
                      refine wpAnyH_ready (rs := [14, 18]) (by kernel_rfl) (by simp) ?_
                      refine AllReadyH.cons rfl (fun K hK => ?_) (AllReadyH.cons rfl (fun K hK => ?_) AllReadyH.nil)
                      · go_simp
                        refine (HWO.out _ hHeld2).mono ?_
                        rintro _ w10 ⟨rfl, hg10⟩
                        go_wp2_with fail
                        refine hK.out _ _ (hHeld2.trans hg10) (fun hHeld3 => ?_)
                        clear hK K hHeld2
                        refine wpAnyH_take (i := 15) (v := ?_) rfl (by kernel_rfl) (by kernel_rfl) (by kernel_rfl) (fun _ _ _ h => h) (Or.inl ⟨by rfl, ?_⟩) (by assumption) ?_
                        rotate_left
                        · intro w hSw
                          go_simp
                          try with_reducible rfl
                        simp only [List.getElem_toArray, List.getElem_cons_succ, List.getElem_cons_zero, Act.put, List.setIfInBounds_toArray, List.set_cons_zero, List.set_cons_succ]
                        refine wpAnyH_take (i := 16) (v := ?_) rfl (by kernel_rfl) (by kernel_rfl) (by kernel_rfl) (fun _ _ _ h => h) (Or.inl ⟨by rfl, ?_⟩) (by assumption) ?_
                        rotate_left
                        · intro w hSw
                          go_simp
                          try with_reducible rfl
                        simp only [List.getElem_toArray, List.getElem_cons_succ, List.getElem_cons_zero, Act.put, List.setIfInBounds_toArray, List.set_cons_zero, List.set_cons_succ]
                        refine wpAnyH_take (i := 17) (v := ?_) rfl (by kernel_rfl) (by kernel_rfl) (by kernel_rfl) (fun _ _ _ h => h) (Or.inl ⟨by rfl, ?_⟩) (by assumption) ?_
                        rotate_left
                        · intro w hSw
                          go_simp
                          try with_reducible rfl
                        simp only [List.getElem_toArray, List.getElem_cons_succ, List.getElem_cons_zero, Act.put, List.setIfInBounds_toArray, List.set_cons_zero, List.set_cons_succ]
                        refine wpAnyH_ready (rs := [18]) (by kernel_rfl) (by simp) ?_
                        refine AllReadyH.cons rfl (fun K hK => ?_) AllReadyH.nil
                        go_simp
                        refine hK.out _ _ (hHeld3.alloc _) (fun hHeldF => ?_)
                        clear hK K
                        have hr17 := Row.new w10 #[.int .i64 0, .bool false, .bool false, .bool false, .bool false, .int .i64 0] 79
                        obtain ⟨b17, hb17⟩ : ∃ b, b = w10.heap.size := ⟨_, rfl⟩
                        have hbF : (W9).heap.size ≤ b17 := by have := hHeld3.size; omega
                        obtain ⟨w11, hw11⟩ : ∃ w, w = w10.alloc (Obj.cells #[.int .i64 0, .bool false, .bool false, .bool false, .bool false, .int .i64 0] 79) := ⟨_, rfl⟩
                        rw [← hb17, ← hw11] at hr17
                        rw [← hw11] at hHeldF
                        rw [← hb17, ← hw11]
                        clear hb17 hw11 hHeld3
                        have l17 := hr17.lt
                        have z0 : w11.cell? ⟨b17, 0, none⟩ = some (.int .i64 0) := hr17.cell 0
                        have z1 : w11.cell? ⟨b17, 1, none⟩ = some (.bool false) := hr17.cell 1
                        have z2 : w11.cell? ⟨b17, 2, none⟩ = some (.bool false) := hr17.cell 2
                        have z3 : w11.cell? ⟨b17, 3, none⟩ = some (.bool false) := hr17.cell 3
                        have z4 : w11.cell? ⟨b17, 4, none⟩ = some (.bool false) := hr17.cell 4
                        have z5 : w11.cell? ⟨b17, 5, none⟩ = some (.int .i64 0) := hr17.cell 5
                        have f0 := hr17.frozen 0
                        have f1 := hr17.frozen 1
                        have f2 := hr17.frozen 2
                        have f3 := hr17.frozen 3
                        have f4 := hr17.frozen 4
                        have f5 := hr17.frozen 5
                        refine wpAnyH_ready (rs := [19]) (by kernel_rfl) (by simp) ?_
                        refine AllReadyH.cons rfl (fun K hK => ?_) AllReadyH.nil
                        go_simp
                        refine hK.out _ _ ((((((hHeldF.setCell hbF _).setCell hbF _).setCell hbF _).setCell hbF _).setCell hbF _).setCell hbF _) (fun hHeldZ => ?_)
                        clear hK K hHeldF z0 z1 z2 z3 z4 z5 f0 f1 f2 f3 f4 f5 l17 hr17
                        refine wpAnyH_take (i := 20) (v := ?_) rfl (by kernel_rfl) (by kernel_rfl) (by kernel_rfl) (fun _ _ _ h => h) (Or.inl ⟨by rfl, ?_⟩) (by assumption) ?_
                        rotate_left
                        · intro w hSw
                          go_simp
                          try with_reducible rfl
                        simp only [List.getElem_toArray, List.getElem_cons_succ, List.getElem_cons_zero, Act.put, List.setIfInBounds_toArray, List.set_cons_zero, List.set_cons_succ]
                        refine wpAnyH_done (by kernel_rfl) ?_ _
                        go_wp2_with fail
                        go_meet
                        exact ⟨rfl, hHeldZ⟩
                      · go_simp
                        refine hK.out _ _ (hHeld2.alloc _) (fun hHeld3 => ?_)
                        clear hK K
                        have hr17 := Row.new w9 #[.int .i64 0, .bool false, .bool false, .bool false, .bool false, .int .i64 0] 79
                        obtain ⟨b17, hb17⟩ : ∃ b, b = w9.heap.size := ⟨_, rfl⟩
                        have hbF : (W9).heap.size ≤ b17 := by have := hHeld2.size; omega
                        obtain ⟨w11, hw11⟩ : ∃ w, w = w9.alloc (Obj.cells #[.int .i64 0, .bool false, .bool false, .bool false, .bool false, .int .i64 0] 79) := ⟨_, rfl⟩
                        rw [← hb17, ← hw11] at hr17
                        rw [← hw11] at hHeld3
                        rw [← hb17, ← hw11]
                        clear hb17 hw11 hHeld2
                        refine wpAnyH_ready (rs := [14]) (by kernel_rfl) (by simp) ?_
                        refine AllReadyH.cons rfl (fun K hK => ?_) AllReadyH.nil
                        go_simp
                        refine (HWO.out _ hHeld3).mono ?_
                        rintro _ w10 ⟨rfl, hg10⟩
                        go_wp2_with fail
                        refine hK.out _ _ (hHeld3.trans hg10) (fun hHeldF => ?_)
                        clear hK K hHeld3
                        have hr17 := hr17.grows hg10
                        clear hg10
                        refine wpAnyH_take (i := 15) (v := ?_) rfl (by kernel_rfl) (by kernel_rfl) (by kernel_rfl) (fun _ _ _ h => h) (Or.inl ⟨by rfl, ?_⟩) (by assumption) ?_
                        rotate_left
                        · intro w hSw
                          go_simp
                          try with_reducible rfl
                        simp only [List.getElem_toArray, List.getElem_cons_succ, List.getElem_cons_zero, Act.put, List.setIfInBounds_toArray, List.set_cons_zero, List.set_cons_succ]
                        refine wpAnyH_take (i := 16) (v := ?_) rfl (by kernel_rfl) (by kernel_rfl) (by kernel_rfl) (fun _ _ _ h => h) (Or.inl ⟨by rfl, ?_⟩) (by assumption) ?_
                        rotate_left
                        · intro w hSw
                          go_simp
                          try with_reducible rfl
                        simp only [List.getElem_toArray, List.getElem_cons_succ, List.getElem_cons_zero, Act.put, List.setIfInBounds_toArray, List.set_cons_zero, List.set_cons_succ]
                        refine wpAnyH_take (i := 17) (v := ?_) rfl (by kernel_rfl) (by kernel_rfl) (by kernel_rfl) (fun _ _ _ h => h) (Or.inl ⟨by rfl, ?_⟩) (by assumption) ?_
                        rotate_left
                        · intro w hSw
                          go_simp
                          try with_reducible rfl
                        simp only [List.getElem_toArray, List.getElem_cons_succ, List.getElem_cons_zero, Act.put, List.setIfInBounds_toArray, List.set_cons_zero, List.set_cons_succ]
                        have l17 := hr17.lt
                        have z0 : w10.cell? ⟨b17, 0, none⟩ = some (.int .i64 0) := hr17.cell 0
                        have z1 : w10.cell? ⟨b17, 1, none⟩ = some (.bool false) := hr17.cell 1
                        have z2 : w10.cell? ⟨b17, 2, none⟩ = some (.bool false) := hr17.cell 2
                        have z3 : w10.cell? ⟨b17, 3, none⟩ = some (.bool false) := hr17.cell 3
                        have z4 : w10.cell? ⟨b17, 4, none⟩ = some (.bool false) := hr17.cell 4
                        have z5 : w10.cell? ⟨b17, 5, none⟩ = some (.int .i64 0) := hr17.cell 5
                        have f0 := hr17.frozen 0
                        have f1 := hr17.frozen 1
                        have f2 := hr17.frozen 2
                        have f3 := hr17.frozen 3
                        have f4 := hr17.frozen 4
                        have f5 := hr17.frozen 5
                        refine wpAnyH_ready (rs := [19]) (by kernel_rfl) (by simp) ?_
                        refine AllReadyH.cons rfl (fun K hK => ?_) AllReadyH.nil
                        go_simp
                        refine hK.out _ _ ((((((hHeldF.setCell hbF _).setCell hbF _).setCell hbF _).setCell hbF _).setCell hbF _).setCell hbF _) (fun hHeldZ => ?_)
                        clear hK K hHeldF z0 z1 z2 z3 z4 z5 f0 f1 f2 f3 f4 f5 l17 hr17
                        refine wpAnyH_take (i := 20) (v := ?_) rfl (by kernel_rfl) (by kernel_rfl) (by kernel_rfl) (fun _ _ _ h => h) (Or.inl ⟨by rfl, ?_⟩) (by assumption) ?_
                        rotate_left
                        · intro w hSw
                          go_simp
                          try with_reducible rfl
                        simp only [List.getElem_toArray, List.getElem_cons_succ, List.getElem_cons_zero, Act.put, List.setIfInBounds_toArray, List.set_cons_zero, List.set_cons_succ]
                        refine wpAnyH_done (by kernel_rfl) ?_ _
                        go_wp2_with fail
                        go_meet
                        exact ⟨rfl, hHeldZ⟩
                    · go_simp
                      refine hK.out _ _ (hHeld.alloc _) (fun hHeld3 => ?_)
                      clear hK K
                      have hr17 := Row.new (W9).drew #[.int .i64 0, .bool false, .bool false, .bool false, .bool false, .int .i64 0] 79
                      obtain ⟨b17, hb17⟩ : ∃ b, b = (W9).heap.size := ⟨_, rfl⟩
                      have hbF : (W9).heap.size ≤ b17 := by omega
                      obtain ⟨w11, hw11⟩ : ∃ w, w = ((W9).alloc (Obj.cells #[.int .i64 0, .bool false, .bool false, .bool false, .bool false, .int .i64 0] 79)).drew := ⟨_, rfl⟩
                      have hr17 : Row w11 b17 #[.int .i64 0, .bool false, .bool false, .bool false, .bool false, .int .i64 0] 79 := by rw [hw11, hb17]; exact (Row.new W9 _ _).grows ((Grows.refl _).drew)
                      have hHeld3 : Grows W9 w11 := by rw [hw11]; exact ((Grows.refl _).alloc _).drew
                      rw [← hb17]
                      change wpAnyH _ _ _ _ _ _ _ _ (((W9).alloc (Obj.cells #[.int .i64 0, .bool false, .bool false, .bool false, .bool false, .int .i64 0] 79)).drew)
                      rw [← hw11]
                      clear hb17 hw11 hHeld
                      refine wpAnyH_ready (rs := [10]) (by kernel_rfl) (by simp) ?_
                      refine AllReadyH.cons rfl (fun K hK => ?_) AllReadyH.nil
                      go_simp
                      refine (HRO.out _ hHeld3).mono ?_
                      rintro _ w9 ⟨rfl, hg9⟩
                      go_wp2_with fail
                      refine hK.out _ _ (hHeld3.trans hg9) (fun hHeld4 => ?_)
                      clear hK K hHeld3
                      have hr17 := hr17.grows hg9
                      clear hg9
                      refine wpAnyH_ready (rs := [14]) (by kernel_rfl) (by simp) ?_
                      refine AllReadyH.cons rfl (fun K hK => ?_) AllReadyH.nil
                      go_simp
                      refine (HWO.out _ hHeld4).mono ?_
                      rintro _ w10 ⟨rfl, hg10⟩
                      go_wp2_with fail
                      refine hK.out _ _ (hHeld4.trans hg10) (fun hHeldF => ?_)
                      clear hK K hHeld4
                      have hr17 := hr17.grows hg10
                      clear hg10
                      refine wpAnyH_take (i := 15) (v := ?_) rfl (by kernel_rfl) (by kernel_rfl) (by kernel_rfl) (fun _ _ _ h => h) (Or.inl ⟨by rfl, ?_⟩) (by assumption) ?_
                      rotate_left
                      · intro w hSw
                        go_simp
                        try with_reducible rfl
                      simp only [List.getElem_toArray, List.getElem_cons_succ, List.getElem_cons_zero, Act.put, List.setIfInBounds_toArray, List.set_cons_zero, List.set_cons_succ]
                      refine wpAnyH_take (i := 16) (v := ?_) rfl (by kernel_rfl) (by kernel_rfl) (by kernel_rfl) (fun _ _ _ h => h) (Or.inl ⟨by rfl, ?_⟩) (by assumption) ?_
                      rotate_left
                      · intro w hSw
                        go_simp
                        try with_reducible rfl
                      simp only [List.getElem_toArray, List.getElem_cons_succ, List.getElem_cons_zero, Act.put, List.setIfInBounds_toArray, List.set_cons_zero, List.set_cons_succ]
                      refine wpAnyH_take (i := 17) (v := ?_) rfl (by kernel_rfl) (by kernel_rfl) (by kernel_rfl) (fun _ _ _ h => h) (Or.inl ⟨by rfl, ?_⟩) (by assumption) ?_
                      rotate_left
                      · intro w hSw
                        go_simp
                        try with_reducible rfl
                      simp only [List.getElem_toArray, List.getElem_cons_succ, List.getElem_cons_zero, Act.put, List.setIfInBounds_toArray, List.set_cons_zero, List.set_cons_succ]
                      have l17 := hr17.lt
                      have z0 : w10.cell? ⟨b17, 0, none⟩ = some (.int .i64 0) := hr17.cell 0
                      have z1 : w10.cell? ⟨b17, 1, none⟩ = some (.bool false) := hr17.cell 1
                      have z2 : w10.cell? ⟨b17, 2, none⟩ = some (.bool false) := hr17.cell 2
                      have z3 : w10.cell? ⟨b17, 3, none⟩ = some (.bool false) := hr17.cell 3
                      have z4 : w10.cell? ⟨b17, 4, none⟩ = some (.bool false) := hr17.cell 4
                      have z5 : w10.cell? ⟨b17, 5, none⟩ = some (.int .i64 0) := hr17.cell 5
                      have f0 := hr17.frozen 0
                      have f1 := hr17.frozen 1
                      have f2 := hr17.frozen 2
                      have f3 := hr17.frozen 3
                      have f4 := hr17.frozen 4
                      have f5 := hr17.frozen 5
                      refine wpAnyH_ready (rs := [19]) (by kernel_rfl) (by simp) ?_
                      refine AllReadyH.cons rfl (fun K hK => ?_) AllReadyH.nil
                      go_simp
                      refine hK.out _ _ ((((((hHeldF.setCell hbF _).setCell hbF _).setCell hbF _).setCell hbF _).setCell hbF _).setCell hbF _) (fun hHeldZ => ?_)
                      clear hK K hHeldF z0 z1 z2 z3 z4 z5 f0 f1 f2 f3 f4 f5 l17 hr17
                      refine wpAnyH_take (i := 20) (v := ?_) rfl (by kernel_rfl) (by kernel_rfl) (by kernel_rfl) (fun _ _ _ h => h) (Or.inl ⟨by rfl, ?_⟩) (by assumption) ?_
                      rotate_left
                      · intro w hSw
                        go_simp
                        try with_reducible rfl
                      simp only [List.getElem_toArray, List.getElem_cons_succ, List.getElem_cons_zero, Act.put, List.setIfInBounds_toArray, List.set_cons_zero, List.set_cons_succ]
                      refine wpAnyH_done (by kernel_rfl) ?_ _
                      go_wp2_with fail
                      go_meet
                      exact ⟨rfl, hHeldZ⟩
                  case rest =>
                    as_aux_lemma =>
                    obtain ⟨rfl, hgW⟩ := hcut
                    have HGW := Lib.hid hgW
                    clear hgW HRO HWO HCW ltw wm wu
                    obtain ⟨W10, hW10⟩ : ∃ W10, W10 = wc := ⟨_, rfl⟩
                    have HGW10 : Hid (Grows W9 W10) := Lib.hid (by rw [hW10]; exact HGW.out)
                    rw [← hW10]
                    clear hW10 HGW
                    have HA10 := Lib.hid (HA9.out.grows HGW10.out)
                    have hr10 := HR99.out.grows HGW10.out
                    have HR10 := Lib.hid hr10
                    have l9 := hr10.lt
                    have q0 : W10.cell? ⟨b9, 0, none⟩ = some (.bool ns1) := hr10.cell 0
                    have q1 : W10.cell? ⟨b9, 1, none⟩ = some (.bool ns2) := hr10.cell 1
                    clear hr10 HGW10 HA9 HR99
                    go_wp2_with fail
                    go_roundw
                    case measure => simp [intOf]; omega
                    case rel =>
                      exact ⟨i + 1, ns1, ns2, ns3, by omega, by simp, HA10.out, HR10.out⟩
    · as_aux_lemma =>
      obtain rfl : i = m := by omega
      obtain ⟨⟨B, T, O, G, g1, g2⟩, ⟨rr, g3, g4, g5⟩, g6⟩ := HAi.out
      have hun := unmap_one g1 (page := q) (by omega) g2
      have c2 : wr.cell? ⟨wb, 2, none⟩ = some (.pointer (some ⟨I.tb, 0, none⟩)) := by rw [g3.cell]; exact g5
      have lt := g3.lt
      have hj := HJ.out [I.fp, I.bt, I.bw, I.q, I.tb, I.bl] (fun k hk => by simp at hk; omega)
      have HG3 := Lib.hid g3
      have HG5 := Lib.hid g5
      have HG6 := Lib.hid g6
      have HJ6 := Lib.hid hj
      have hrr : rightR r x1 x2 = true := by
        obtain ⟨s, c', L, low, e1, e2⟩ := g1.ex
        exact (e2.ok q _ (by omega) g2).1
      have HRR := Lib.hid hrr
      have hb96 : b9 ∉ [I.fp, I.bt, I.bw, I.q, I.tb, I.bl] := by
        have h1 := HLT3.out
        have h2 := HB9.out.2.2
        simp; omega
      have HB96 := Lib.hid hb96
      clear g1 g2 g3 g4 g5 g6 hj hrr hb96 HAi
      go_wp2_with fail
      refine hun.mono ?_
      rintro _ w7 ⟨rfl, ⟨B', T', G', hO', _, hU⟩, hC⟩
      have hnone : G'.pg q = none := by
        obtain ⟨t, _, _, _, ⟨_, _, rfl⟩ | ⟨_, _, rfl⟩⟩ := hU
        · exact GS.set_same _ _ _
        · rw [GS.setLw_pg, GS.set_same]
      have HPN := Lib.hid (fun W' (h : Grows w7 W') => protect_no (hO'.grows h) (page := q) (by omega) r x1 x2 HRR.out hnone)
      have hr7 := HG3.out.chg hC HJ6.out.1
      have hr9 := HR9.out.chg hC HB96.out
      have c2 : w7.cell? ⟨wb, 2, none⟩ = some (.pointer (some ⟨I.tb, 0, none⟩)) := by rw [hr7.cell]; exact HG5.out
      have lt := hr7.lt
      have l9 := hr9.lt
      have q0 : w7.cell? ⟨b9, 0, none⟩ = some (.bool r) := hr9.cell 0
      have q1 : w7.cell? ⟨b9, 1, none⟩ = some (.bool x1) := hr9.cell 1
      have q2 : w7.cell? ⟨b9, 2, none⟩ = some (.bool x2) := hr9.cell 2
      have HG7 := Lib.hid (hC.to_grows HG6.out HJ6.out.2)
      have HC7 := Lib.hid (fun W' (h : Grows w7 W') => (⟨by rw [h.cell hr7.lt]; exact c2, by rw [h.cell hr9.lt]; exact q0, by rw [h.cell hr9.lt]; exact q1, by rw [h.cell hr9.lt]; exact q2⟩ : W'.cell? ⟨wb, 2, none⟩ = some (.pointer (some ⟨I.tb, 0, none⟩)) ∧ W'.cell? ⟨b9, 0, none⟩ = some (.bool r) ∧ W'.cell? ⟨b9, 1, none⟩ = some (.bool x1) ∧ W'.cell? ⟨b9, 2, none⟩ = some (.bool x2)))
      clear hun hO' hU hC hnone hr7 hr9 HG3 HG5 HG6 HJ6 HRR HB96 HR9
      go_wp2_with fail
      go_region_held3 (fun w' => w'.cell? ⟨wb, 2, none⟩ = some (.pointer (some ⟨I.tb, 0, none⟩)) ∧ w'.cell? ⟨b9, 0, none⟩ = some (.bool r) ∧ w'.cell? ⟨b9, 1, none⟩ = some (.bool x1) ∧ w'.cell? ⟨b9, 2, none⟩ = some (.bool x2)) (first
        | with_reducible exact HC7.out _ HG8.out
        | with_reducible exact HC7.out _ ((Grows.refl _).drew)) (first
        | (go_at_call 17; refine (HPN.out _ ((Grows.refl _).drew)).mono ?_; rintro _ w8 ⟨rfl, hg8⟩
           have HG8 : Hid (Grows w7 w8) := Lib.hid (((Grows.refl w7).drew).trans hg8)
           clear hg8))
      all_goals
        have HGF := Lib.hid (HG7.out.trans HG8.out)
        clear HPN HC7 c2 lt l9 q0 q1 q2 HG7 HG8
        go_wp2_with fail
        go_ret
        exact ⟨by simp, HGF.out⟩
end
end Go.Proofs.YtlchlklbjocliaaDoor
