/- The walk of BalloonBack. -/
import Derived.Test.YtlchlklbjocliaaDoorBkLaw
import Derived.Test.YtlchlklbjocliaaDoorBaE
import Derived.Test.YtlchlklbjocliaaDoorBaG
import Derived.Test.YtlchlklbjocliaaDoorSlice2
namespace Go.Proofs.YtlchlklbjocliaaDoor
open Go Go.RowKit
set_option linter.unusedSimpArgs false
set_option linter.unusedVariables false
set_option maxRecDepth 100000
section
variable {H : Type} {enc : TypeId × Value → H}
theorem num_at {W : World} {A : Option Addr} {m : Nat} {X : Nat → List Value} (hX : SliceIs2 enc Tryd.prog W [3] A m X) {i : Nat} (hi : i < m) :
    ∃ b o, A = some ⟨b, o, none⟩ ∧ b < W.heap.size ∧ ∃ x : Int, W.cell? ⟨b, o + i, none⟩ = some (.int .i64 x) ∧ -9223372036854775808 ≤ x ∧ x ≤ 9223372036854775807 := by
  obtain ⟨b, o, hA, hb, hL, hc⟩ := hX i hi
  obtain ⟨c0, cs0, e0, l0, hL⟩ := hL.cons
  obtain ⟨x, rfl, hx⟩ := l0.int Tryd.underlying3
  have hxb := bounds_i64 hx
  refine ⟨b, o, hA, hb, x, ?_, by omega, by omega⟩
  have := hc 0 (by decide)
  rw [e0] at this
  simpa using this
theorem and7 (x : Int) : ∃ q : Nat, bits .and .i64 x 7 = q ∧ q ≤ 7 := by
  have e : bits .and .i64 x 7 = x % 8 := and_mask_i64 (n := 3) (by omega)
  rw [e]
  exact ⟨(x % 8).toNat, by omega, by omega⟩
theorem field_waits (x y z : Int) (w : World) : (Instr.field 96 (.agg #[.int .i64 x, .int .i64 y, .int .i64 z]) 2).run Tryd.prog w = .ok (.int .i64 z) w := by kernel_rfl
/-- What stands between the calls. -/
def BkAt (W : World) (I : Ids) (ba bv wb : Nat) (M : Int) (T O : Nat → Nat) (G : GS) (w : World) : Prop :=
  ∃ B gvn tk, One w I B T O (fun _ => 1) (fun _ => ((20 : Nat) : Int)) G ∧ BaAt w ba I.pm I.fp I.tb (I.o : Int) 8 bv 0 gvn tk (fun _ => none) ∧ gvn = tk + (cntP G 0 : Nat) ∧ 0 ≤ tk ∧ tk ≤ M ∧ BInv I.rt T O G ∧
    Row w wb #[.pointer (some ⟨I.pm, 0, none⟩), .pointer (some ⟨I.fp, 0, none⟩), .pointer (some ⟨I.tb, 0, none⟩), .pointer (some ⟨ba, 0, none⟩)] 89 ∧ Grows W w
theorem BkAt.grows {W w w' : World} {I : Ids} {ba bv wb : Nat} {M : Int} {T O : Nat → Nat} {G : GS} (h : BkAt W I ba bv wb M T O G w) (hg : Grows w w') : BkAt W I ba bv wb M T O G w' := by
  obtain ⟨B, gvn, tk, h1, h2, h3, h4, h5, h6, h7, h8⟩ := h
  exact ⟨B, gvn, tk, h1.grows hg, h2.chg (Chg.of_grows (S := []) hg) (by simp) (by simp), h3, h4, h5, h6, h7.grows hg, h8.trans hg⟩
theorem BkAt.row {W w : World} {I : Ids} {ba bv wb : Nat} {M : Int} {T O : Nat → Nat} {G : GS} (h : BkAt W I ba bv wb M T O G w) : Row w wb #[.pointer (some ⟨I.pm, 0, none⟩), .pointer (some ⟨I.fp, 0, none⟩), .pointer (some ⟨I.tb, 0, none⟩), .pointer (some ⟨ba, 0, none⟩)] 89 := by
  obtain ⟨B, gvn, tk, h1, h2, h3, h4, h5, h6, h7, h8⟩ := h
  exact h7
theorem BkAt.base {W w : World} {I : Ids} {ba bv wb : Nat} {M : Int} {T O : Nat → Nat} {G : GS} (h : BkAt W I ba bv wb M T O G w) : Grows W w := by
  obtain ⟨B, gvn, tk, h1, h2, h3, h4, h5, h6, h7, h8⟩ := h
  exact h8
/-- The blocks of chapter 25's begin: none of W's, the world's own row apart. -/
structure BkSep (W : World) (I : Ids) (ba bv wb : Nat) : Prop where
  sep : BaSep ba bv I
  own : wb ≠ I.fp ∧ wb ≠ I.bt ∧ wb ≠ I.bw ∧ wb ≠ I.q ∧ wb ≠ I.tb ∧ wb ≠ I.bl ∧ wb ≠ ba ∧ wb ≠ bv
  new : W.heap.size ≤ I.fp ∧ W.heap.size ≤ I.bt ∧ W.heap.size ≤ I.bw ∧ W.heap.size ≤ I.q ∧ W.heap.size ≤ I.tb ∧ W.heap.size ≤ I.bl ∧ W.heap.size ≤ ba ∧ W.heap.size ≤ bv ∧ W.heap.size ≤ wb
  nums : I.n = 20 ∧ I.first = 1 ∧ I.o = 3
set_option maxHeartbeats 1000000 in
theorem bk_give {W w : World} {I : Ids} {ba bv wb : Nat} {M : Int} {T O : Nat → Nat} {G : GS} (h : BkAt W I ba bv wb M T O G w) (hs : BkSep W I ba bv wb) (hM : M ≤ 100) {page : Nat} (hp : page < 8) :
    Calls Tryd.prog 36 #[.pointer (some ⟨ba, 0, none⟩), .int .i64 page] w fun e w' => ∃ (er : Int), e = .returned (.int .i64 er) ∧ (∃ T' O' G', BkAt W I ba bv wb M T' O' G' w') ∧ Chg [I.fp, I.bt, I.bw, I.q, I.tb, ba, I.bl] w w' := by
  obtain ⟨B, gvn, tk, h1, h2, h3, h4, h5, h6, h7, h8⟩ := h
  obtain ⟨n1, n2, n3⟩ := hs.nums
  have hc := cntP_le G 0
  have hw := hs.own
  have hn := hs.new
  refine (give_all h2 h1 hs.sep (page := page) (by omega) (by omega) (by omega) (fun _ _ _ => rfl) (by rw [n1]; omega)).mono ?_
  rintro _ w' ⟨er, gv', B', T', O', G', rfl, hB', hO', hC, hK, hR⟩
  rw [n1, n2, n3] at hR
  obtain ⟨hI, hg⟩ := h6.give hp hR h3
  exact ⟨er, rfl, ⟨T', O', G', B', gv', tk, hO', hB', hg, h4, h5, hI, h7.chg hC (by simp; omega), hC.to_grows h8 (by simp; omega)⟩, hC⟩
set_option maxHeartbeats 1000000 in
theorem bk_take {W w : World} {I : Ids} {ba bv wb : Nat} {M : Int} {T O : Nat → Nat} {G : GS} (h : BkAt W I ba bv wb M T O G w) (hs : BkSep W I ba bv wb) (hM : M ≤ 100) {page : Nat} (hp : page < 8) {g : Pg} (hg : G.pg page = some g) :
    Calls Tryd.prog 34 #[.pointer (some ⟨ba, 0, none⟩), .int .i64 page] w fun e w' => e = .returned (.tuple #[.int .i64 g.fr, .int .i64 0]) ∧ Chg [I.fp, I.bt, I.bw, I.q, I.tb, I.bl, ba, bv] w w' ∧
      Calls Tryd.prog 35 #[.pointer (some ⟨ba, 0, none⟩), .int .i64 g.fr] w' fun e w'' => e = .returned (.int .i64 0) ∧ (∃ T' O' G', BkAt W I ba bv wb (M + 1) T' O' G' w'' ∧ G'.pg page = none ∧ (∀ p, G.pg p = none → G'.pg p = none)) := by
  obtain ⟨B, gvn, tk, h1, h2, h3, h4, h5, h6, h7, h8⟩ := h
  obtain ⟨n1, n2, n3⟩ := hs.nums
  have hc := cntP_le G 0
  have hw := hs.own
  have hn := hs.new
  obtain ⟨j1, j2, j3⟩ := h1.fs.pgs page g (by omega) hg
  refine (take_one h2 h1 hs.sep (page := page) (by omega) (by omega) hg (by omega) (by omega)).mono ?_
  rintro _ w' ⟨rfl, B', T', G', hB', hO', hC, hK, hU⟩
  obtain ⟨hI, hT1, hcn, hgp, hpn⟩ := h6.took hp hg (by omega) j2 (by omega) hU
  refine ⟨rfl, hC, ?_⟩
  refine (settle_one hB' hO' hs.sep j1 hT1 j3 (by unfold bmUpd; rw [if_pos rfl])).mono ?_
  rintro _ w'' ⟨rfl, hB2, hO2, hC2⟩
  rw [bmDel_upd rfl] at hB2
  refine ⟨rfl, _, O, G', ⟨_, gvn, tk + 1, hO2, hB2, by omega, by omega, by omega, hI, (h7.chg hC (by simp; omega)).chg hC2 (by simp; omega), hC2.to_grows (hC.to_grows h8 (by simp; omega)) (by simp; omega)⟩, hgp, hpn⟩
theorem bk_take_no {W w : World} {I : Ids} {ba bv wb : Nat} {M : Int} {T O : Nat → Nat} {G : GS} (h : BkAt W I ba bv wb M T O G w) {page : Nat} (hp : page < 8) (hg : G.pg page = none) :
    Calls Tryd.prog 34 #[.pointer (some ⟨ba, 0, none⟩), .int .i64 page] w fun e w' => e = .returned (.tuple #[.int .i64 0, .int .i64 14]) ∧ Grows w w' := by
  obtain ⟨B, gvn, tk, h1, h2, h3, h4, h5, h6, h7, h8⟩ := h
  exact take_no h2 h1 (by omega) (by omega) hg
theorem bk_count {W w : World} {I : Ids} {ba bv wb : Nat} {M : Int} {T O : Nat → Nat} {G : GS} (h : BkAt W I ba bv wb M T O G w) (hs : BkSep W I ba bv wb) (hno : ∀ p, G.pg p = none) :
    Calls Tryd.prog 24 #[.pointer (some ⟨I.fp, 0, none⟩), .int .i64 0] w fun e w' => (∃ x : Int, e = .returned (.tuple #[.int .i64 x, .int .i64 ((20 : Int) - (cn (fun j => decide (j < 1 ∨ j = I.rt)) 20 : Nat))])) ∧ Grows w w' := by
  obtain ⟨B, gvn, tk, h1, h2, h3, h4, h5, h6, h7, h8⟩ := h
  obtain ⟨n1, n2, n3⟩ := hs.nums
  obtain ⟨low, hF⟩ := h1.fr
  rw [n1] at hF
  refine (Count_any hF 0).mono ?_
  rintro _ w' ⟨rfl, hg⟩
  rw [h6.held h1 n1 n2 n3 hno]
  exact ⟨⟨_, rfl⟩, hg⟩
theorem bk_told {W w : World} {I : Ids} {ba bv wb : Nat} {M : Int} {T O : Nat → Nat} {G : GS} (h : BkAt W I ba bv wb M T O G w) :
    Calls Tryd.prog 39 #[.pointer (some ⟨ba, 0, none⟩)] w fun e w' => (∃ x y : Int, e = .returned (.agg #[.int .i64 x, .int .i64 y, .int .i64 0])) ∧ Grows w w' := by
  obtain ⟨B, gvn, tk, h1, h2, h3, h4, h5, h6, h7, h8⟩ := h
  refine (Told_any h2).mono ?_
  rintro _ w' ⟨rfl, hg⟩
  exact ⟨⟨_, _, rfl⟩, hg⟩
set_option maxRecDepth 100000 in
set_option maxHeartbeats 8000000 in
theorem balloonBack_walk (W : World) (A : Option Addr) (m c : Nat) (X : Nat → List Value) (hmc : m ≤ c) (hsz : c * 8 < 140737488355328) (hX : SliceIs2 enc Tryd.prog W [3] A m X) (hA : A = none → c = 0) (hT : Widths W) (hP : Places W) :
    Calls Tryd.prog 9 #[.slice A m c] W fun r w' => r = .returned (.bool true) ∧ Grows W w' := by
  have hm : m ≤ 140737488355328 := by omega
  clear hsz
  go_enter Tryd.func9, Tryd.ntmps9
  go_wp2_with fail
  refine (begin2 hT hP (n := 20) (by omega) (by omega) (pages := 8) (by omega) (by omega)).mono ?_
  rintro _ w1 ⟨wb, pm, q, fp, bt, bw, tb, bl, ba, bv, k, rfl, hR1, hB1, hG1, hk, hda, hdv, hdw, hnew, hg1⟩
  obtain ⟨I, hI⟩ : ∃ I : Ids, I = ⟨tb, pm, fp, bl, q, 20 * 256, 3, k, bt, bw, 20, 1⟩ := ⟨_, rfl⟩
  have hs : BkSep W I ba bv wb := by
    rw [hI]
    exact ⟨⟨hda, hdv⟩, hdw, hnew, rfl, rfl, rfl⟩
  have hkr : k * 256 + 256 ≤ 20 * 256 := by omega
  have hk1 : 1 ≤ k := by
    rcases Nat.eq_zero_or_pos k with h0 | h0
    · rw [h0] at hk; exact absurd hk.2 (by decide)
    · exact h0
  have hA1 : BkAt W I ba bv wb 0 (upF (fstT 1) k 1) (upF (fun _ => 0) k 0) GS.empty w1 := by
    rw [hI]
    refine ⟨_, 0, 0, ⟨⟨0, _, _, _, hG1, GsAt.empty hkr⟩, FsAt.empty ⟨show 1 ≤ 3 by decide, show 3 ≤ 16 by decide⟩ ⟨hk.1, hk1, upF_same _ _ _, upF_same _ _ _⟩ (fun f hf hT => ?_), by show (20 : Nat) ≤ 256; decide, fun f => by show (1 : Nat) ≤ 60000; decide⟩, hB1, by rw [show cntP GS.empty 0 = 0 from cn_none fun _ _ => rfl]; rfl, by omega, by omega, BInv.begin hk.2, hR1, hg1⟩
    show upF (fun _ => 0) k 0 f ≠ 3
    unfold upF; split
    · decide
    · show (0 : Nat) ≠ 3; decide
  have HA1 := Lib.hid hA1
  have HS := Lib.hid hs
  have hwr1 := hA1.row
  have c1 : w1.cell? ⟨wb, 1, none⟩ = some (.pointer (some ⟨I.fp, 0, none⟩)) := hwr1.cell 1
  have lt1 := hwr1.lt
  clear hR1 hB1 hG1 hk hda hdv hdw hnew hg1 hI hs hkr hk1 hA1 hT hP hwr1
  go_wp2_with fail
  refine (bk_count HA1.out HS.out (fun _ => rfl)).mono ?_
  rintro _ w2 ⟨⟨x0, rfl⟩, hg2⟩
  have HA2 := Lib.hid (HA1.out.grows hg2)
  clear HA1 c1 lt1 hg2
  obtain ⟨fr, hfr⟩ : ∃ fr : Int, fr = ((20 : Int) - (cn (fun j => decide (j < 1 ∨ j = I.rt)) 20 : Nat)) := ⟨_, rfl⟩
  rw [← hfr]
  have HFR := Lib.hid hfr
  clear hfr
  go_wp2_with fail
  go_loopw [6] (fun r wr => ∃ (k : Nat) (T O : Nat → Nat) (G : GS), k ≤ 2 ∧ r = .int .i64 k ∧ BkAt W I ba bv wb (8 * (k : Nat)) T O G wr ∧ ∀ p, G.pg p = none) (fun r _ => (2 - intOf r).toNat)
  case atStart => exact ⟨0, _, _, _, by omega, rfl, HA2.out, fun _ => rfl⟩
  case round =>
    clear HA2
    obtain ⟨k, T, O, G, hk, rfl, hB, hno⟩ := hrel
    obtain ⟨MM, hMM⟩ : ∃ M : Int, M = 8 * (k : Nat) := ⟨_, rfl⟩
    rw [← hMM] at hB
    have HB := Lib.hid hB
    have HNO := Lib.hid hno
    have HMM := Lib.hid hMM
    clear hB hno hMM
    by_cases hk2 : k < 2
    · have HM : Hid (MM ≤ 8) := Lib.hid (by have := HMM.out; omega)
      have hdk : decide ((k : Int) < 2) = true := decide_eq_true (by omega)
      go_wp2_with fail
      try rw [hdk]
      clear hdk
      go_loopw [7] (fun u wi => ∃ (i : Nat) (T O : Nat → Nat) (G : GS), i ≤ m ∧ u = .int .i64 i ∧ BkAt W I ba bv wb MM T O G wi) (fun u _ => (m - intOf u).toNat)
      case atStart => exact ⟨0, _, _, _, by omega, rfl, HB.out⟩
      case round =>
        clear HB HNO
        obtain ⟨i, Ti, Oi, Gi, hi, rfl, hBi⟩ := hrel
        have HBi := Lib.hid hBi
        clear hBi
        by_cases him : i < m
        · obtain ⟨b, o, rfl, hb, x, d0, _, _⟩ := num_at hX him
          obtain ⟨qq, hq, hq7⟩ := and7 x
          have hb0 := HBi.out.base.lt hb
          have lt := HBi.out.row.lt
          have HGV := Lib.hid (fun W' (h : Grows wr W') => bk_give (HBi.out.grows h) HS.out (by have := HM.out; omega) (page := qq) (by omega))
          have HCL := Lib.hid (fun W' (h : BkAt W I ba bv wb MM Ti Oi Gi W') => (⟨h.row.cell 3, (h.base.cell hb).trans d0⟩ : W'.cell? ⟨wb, 3, none⟩ = some (.pointer (some ⟨ba, 0, none⟩)) ∧ W'.cell? ⟨b, o + i, none⟩ = some (.int .i64 x)))
          have HCG := Lib.hid (fun W' (h : ∃ T' O' G', BkAt W I ba bv wb MM T' O' G' W') => (by obtain ⟨T', O', G', h⟩ := h; exact ⟨h.row.cell 3, (h.base.cell hb).trans d0⟩ : W'.cell? ⟨wb, 3, none⟩ = some (.pointer (some ⟨ba, 0, none⟩)) ∧ W'.cell? ⟨b, o + i, none⟩ = some (.int .i64 x)))
          clear hX d0 hb
          go_wp2_with fail
          go_region_held3 (fun w' => w'.cell? ⟨wb, 3, none⟩ = some (.pointer (some ⟨ba, 0, none⟩)) ∧ w'.cell? ⟨b, o + i, none⟩ = some (.int .i64 x)) (first
            | with_reducible exact HCG.out _ HB3.out
            | with_reducible exact HCL.out _ (HBi.out.grows ((Grows.refl _).drew))) (first
            | (go_at_call 36; refine (HGV.out _ ((Grows.refl _).drew)).mono ?_; rintro _ w3 ⟨er, rfl, hB3, hC3⟩
               have HB3 := Lib.hid hB3
               clear hB3 hC3))
          all_goals
            clear HCL HCG HGV
            go_wp2_with fail
            obtain ⟨T3, O3, G3, hB3⟩ := HB3.out
            go_roundw
            case measure => simp [intOf]; omega
            case rel => exact ⟨i + 1, T3, O3, G3, by omega, by simp, hB3⟩
        · obtain rfl : i = m := by omega
          go_wp2_with fail
          go_loopw [8] (fun u wi => ∃ (p : Nat) (T O : Nat → Nat) (G : GS), p ≤ 8 ∧ u = .int .i64 p ∧ BkAt W I ba bv wb (MM + p) T O G wi ∧ ∀ p', p' < p → G.pg p' = none) (fun u _ => (8 - intOf u).toNat)
          case atStart => exact ⟨0, _, _, _, by omega, rfl, by simpa using HBi.out, fun _ h => by omega⟩
          case round =>
            clear HBi
            obtain ⟨p, Tp, Op, Gp, hp, rfl, hBp, hnop⟩ := hrel
            have HBp := Lib.hid hBp
            have HNP := Lib.hid hnop
            clear hBp hnop
            have c3 : wr.cell? ⟨wb, 3, none⟩ = some (.pointer (some ⟨ba, 0, none⟩)) := HBp.out.row.cell 3
            have c1 : wr.cell? ⟨wb, 1, none⟩ = some (.pointer (some ⟨I.fp, 0, none⟩)) := HBp.out.row.cell 1
            have lt := HBp.out.row.lt
            by_cases hp8 : p < 8
            · cases hg : Gp.pg p with
              | none =>
                have htk := bk_take_no HBp.out hp8 hg
                clear c1
                go_wp2_with fail
                refine htk.mono ?_
                rintro _ w3 ⟨rfl, hg3⟩
                have HB3 := Lib.hid (HBp.out.grows hg3)
                clear htk hg3 c3 lt
                go_wp2_with fail
                go_roundw
                case measure => simp [intOf]; omega
                refine ⟨p + 1, Tp, Op, Gp, by omega, by simp, ?_, fun p' hp' => ?_⟩
                · obtain ⟨B, gvn, tk, h1, h2, h3, h4, h5, h6⟩ := HB3.out
                  exact ⟨B, gvn, tk, h1, h2, h3, h4, by omega, h6⟩
                · by_cases e : p' = p
                  · rw [e]; exact hg
                  · exact HNP.out p' (by omega)
              | some g =>
                have htk := bk_take HBp.out HS.out (by have := HM.out; omega) hp8 hg
                clear c1
                go_wp2_with fail
                refine htk.mono ?_
                rintro _ w3 ⟨rfl, hC3, hset⟩
                have hr3 := HBp.out.row.chg hC3 (by have := HS.out.own; simp; omega)
                have lt3 := hr3.lt
                have d3 : w3.cell? ⟨wb, 3, none⟩ = some (.pointer (some ⟨ba, 0, none⟩)) := hr3.cell 3
                clear htk hC3 c3 lt hr3
                go_wp2_with fail
                refine hset.mono ?_
                rintro _ w4 ⟨rfl, hB4⟩
                have HB4 := Lib.hid hB4
                clear hset hB4 d3 lt3
                go_wp2_with fail
                obtain ⟨T4, O4, G4, hB4, hg4, hn4⟩ := HB4.out
                go_roundw
                case measure => simp [intOf]; omega
                refine ⟨p + 1, T4, O4, G4, by omega, by simp, ?_, fun p' hp' => ?_⟩
                · rw [show MM + ((p + 1 : Nat) : Int) = MM + p + 1 by omega]; exact hB4
                · by_cases e : p' = p
                  · rw [e]; exact hg4
                  · exact hn4 p' (HNP.out p' (by omega))
            · obtain rfl : p = 8 := by omega
              have hall : ∀ p, Gp.pg p = none := fun p => by
                by_cases h8 : p < 8
                · exact HNP.out p h8
                · obtain ⟨B, gvn, tk, h1, h2, h3, h4, h5, h6, _⟩ := HBp.out
                  exact h6.only p (by omega)
              have hcn := bk_count HBp.out HS.out hall
              rw [← HFR.out] at hcn
              have HAL := Lib.hid hall
              clear c3 hall
              go_wp2_with fail
              refine hcn.mono ?_
              rintro _ w3 ⟨⟨x1, rfl⟩, hg3⟩
              have HB3 := Lib.hid (HBp.out.grows hg3)
              clear hcn hg3 c1 lt HBp HNP
              go_wp2_with fail
              refine ⟨⟨k + 1, Tp, Op, Gp, by omega, by simp, ?_, HAL.out⟩, by simp [intOf]; omega⟩
              have := HB3.out
              rw [show MM + ((8 : Nat) : Int) = 8 * ((k + 1 : Nat) : Int) by rw [HMM.out]; omega] at this
              exact this
    · have htd := bk_told HB.out
      have hfd := fun (x y : Int) (w : World) => field_waits x y 0 w
      have c3 : wr.cell? ⟨wb, 3, none⟩ = some (.pointer (some ⟨ba, 0, none⟩)) := HB.out.row.cell 3
      have lt := HB.out.row.lt
      obtain rfl : k = 2 := by omega
      go_wp2_with fail
      refine htd.mono ?_
      rintro _ w3 ⟨⟨x1, x2, rfl⟩, hg3⟩
      have HG := Lib.hid (HB.out.base.trans hg3)
      clear htd hg3 c3 lt HB HNO
      go_wp2_with fail
      go_ret
      exact ⟨rfl, HG.out⟩
end
end Go.Proofs.YtlchlklbjocliaaDoor
