/- The walk of MemKeeps. -/
import Derived.Test.YtoehigcojgeioaaDoorMem
namespace Go.Proofs.YtoehigcojgeioaaDoor
open Go Go.RowKit
set_option linter.unusedSimpArgs false
set_option linter.unusedVariables false
theorem src_take {w : World} {A : Option Addr} {bs : List Nat} (h : Src w A bs) (m : Nat) : Src w A (bs.take m) := by
  refine ⟨fun x hx => h.1 x (List.mem_of_mem_take hx), ?_⟩
  rcases h.2 with ⟨h1, h2⟩ | ⟨ad, h1, h2⟩
  · exact Or.inl ⟨h1, by rw [h2]; simp⟩
  · refine Or.inr ⟨ad, h1, fun j hj => ?_⟩
    simp at hj
    obtain ⟨b, o, e, hb, hc⟩ := h2 j (by omega)
    refine ⟨b, o, e, hb, ?_⟩
    rw [hc]
    have : (bs.take m).getD j 0 = bs.getD j 0 := by simp [List.getD, List.getElem?_take_of_lt (show j < m by omega)]
    rw [this]
def place (A W : Nat) : Nat := A % 512 / W * W
theorem place_facts (A W : Nat) (hW : W = 1 ∨ W = 4 ∨ W = 8) : place A W % W = 0 ∧ place A W + W ≤ 512 := by
  unfold place
  rcases hW with rfl | rfl | rfl <;> omega
theorem load_1 (V : Nat) : loadN (leB V 1) = V % 256 := by
  unfold loadN
  rw [leB_length, if_neg (by decide), leN_leB]
theorem load_4 (V : Nat) : ((loadN (leB V 4) : Nat) : Int) = IntKind.u64.wrap (wrap64 (wrap32 ((V : Int)))) := by
  unfold loadN
  rw [leB_length, if_pos rfl, leN_leB, pow256.2.1]
  rw [← sx32_walk (Nat.mod_lt _ (by decide))]
  congr 2
  unfold wrap32
  omega
theorem load_8 (V : Nat) (h : V < 18446744073709551616) : loadN (leB V 8) = V := by
  unfold loadN
  rw [leB_length, if_neg (by decide), leN_leB, pow256.2.2]
  omega
theorem keeps_in {P W V i : Nat} {B : Nat → Nat} (hi : i < P ∨ P + W ≤ i) : putB B P (leB V W) i = B i := putB_out B P _ (by rw [leB_length]; exact hi)
theorem keeps_at (P W V : Nat) (B : Nat → Nat) : segB (putB B P (leB V W)) P W = leB V W := by
  have := segB_putB B P (leB V W)
  rwa [leB_length] at this
set_option maxRecDepth 100000 in
set_option maxHeartbeats 4000000 in
theorem keeps_law {W : World} (hT : Widths W) (A V : Nat) (hA : A < 18446744073709551616) (hV : V < 18446744073709551616) {a : Option Addr} {n c : Nat} {bs : List Nat} (hb : Src W a bs) (hn : bs.length = n) (hnc : n ≤ c) (hc47 : c < 140737488355328) (hcA : a = none → c = 0) :
    Calls Tryd.prog 3 #[.int .u64 A, .int .u64 V, .slice a n c] W fun r w' => r = .returned (.bool true) ∧ Grows W w' := by
  have HV := Lib.hid hV
  have HT := Lib.hid hT
  have HS2 := Lib.hid (src_take hb 512)
  have HN := Lib.hid (show (bs.take 512).length = min 512 n by rw [List.length_take, hn])
  clear hV hT hb hn
  generalize bs.take 512 = ds at *
  by_cases h512 : 512 < n
  · go_enter Tryd.func3, Tryd.ntmps3
    go_wp2_with fail
    refine (new_ok 2 (by omega) (by omega) _).mono ?_
    rintro _ w1 ⟨p, q, rfl, hM, hg, hp, hq, hqp⟩
    go_wp2_with fail
    refine (Put_ok (show Mem w1 p q 512 _ from hM) 0 512 c a ds (HS2.out.grows hg) (by rw [HN.out]; omega) (by omega)).mono ?_
    rintro _ w2 ⟨rfl, hM2, hC2⟩
    have hg2 := hC2.to_grows hg (by simpa using hq)
    have HQ := Lib.hid hq
    clear hM hg hC2 hq
    go_wp2_with fail
    refine (Bytes_ok hM2 0 512 (by omega)).mono ?_
    rintro _ w3 ⟨v, rfl, bw, cw, rfl, hc1, hc2, hg3, hbw, hBw⟩
    have hM3 := hM2.grows hg3
    have hg3' := hg2.trans hg3
    have hBw2 := hBw.congr (C := (putB (fun _ => 0) 0 ds)) (fun i _ => by rw [Nat.zero_add])
    have hne : bw ≠ q := by have := hM2.qlt; omega
    have hqw := hM3.qlt
    generalize putB (fun _ => 0) 0 ds = B0 at *
    clear hM2 hg2 hBw hg3 hbw
    go_wp2_with fail
    obtain ⟨bl, hbl⟩ : ∃ bl, bl = w3.heap.size := ⟨_, rfl⟩
    have hrow : Row (w3.alloc (Obj.cells #[Value.int .i64 1, .int .i64 4, .int .i64 8] 3)) bl #[.int .i64 1, .int .i64 4, .int .i64 8] 3 := Row.new_at _ _ _ hbl
    have hM4 := hM3.grows ((Grows.refl w3).alloc (Obj.cells #[Value.int .i64 1, .int .i64 4, .int .i64 8] 3))
    have hB4 := hBw2.grows ((Grows.refl w3).alloc (Obj.cells #[Value.int .i64 1, .int .i64 4, .int .i64 8] 3))
    have hg4 := hg3'.alloc (Obj.cells #[Value.int .i64 1, .int .i64 4, .int .i64 8] 3)
    have hne2 : bl ≠ q := by omega
    rw [← hbl]
    clear hbl hM3 hBw2 hg3' hqw
    generalize (w3.alloc (Obj.cells #[Value.int .i64 1, .int .i64 4, .int .i64 8] 3)) = w4 at *
    go_loopw [9, 45] (fun was i wr => ∃ (k b c : Nat) (B : Nat → Nat), k ≤ 3 ∧ i = .int .i64 k ∧ was = .slice (some ⟨b, 0, none⟩) 512 c ∧ 512 ≤ c ∧ c ≤ 9223372036854775807 ∧ Bts wr b 512 B ∧ Mem wr p q 512 B ∧ Row wr bl #[.int .i64 1, .int .i64 4, .int .i64 8] 3 ∧ Grows W wr ∧ b ≠ q ∧ bl ≠ q) (fun _ i _ => (3 - intOf i).toNat)
    case atStart => exact ⟨0, bw, cw, B0, by omega, rfl, rfl, hc1, hc2, hB4, hM4, hrow, hg4, hne, hne2⟩
    case round =>
      clear hrow hg4 hM4 hB4 hne hne2 hc1 hc2
      obtain ⟨k', bw, cw, B, hk, rfl, rfl, hc1, hc2, hBw, hM, hR, hG, hne1, hne2⟩ := hrel
      have hlb := hR.lt
      have : k' = 0 ∨ k' = 1 ∨ k' = 2 ∨ k' = 3 := by omega
      rcases this with rfl | rfl | rfl | rfl
      · have hP : place A 1 % 1 = 0 ∧ place A 1 + 1 ≤ 512 := place_facts A 1 (by omega)
        obtain ⟨P, hPe⟩ : ∃ P, P = place A 1 := ⟨_, rfl⟩
        rw [← hPe] at hP
        have hPz : (A : Int) % 512 = ((P : Nat) : Int) := by rw [hPe]; unfold place; omega
        clear hPe
        have cl : wr.cell? ⟨bl, 0, none⟩ = some (.int .i64 1) := hR.cell 0
        have HBw := Lib.hid hBw
        have HR := Lib.hid hR
        have HNE := Lib.hid (And.intro hne1 hne2)
        have hP2 := hP.2
        have hst := Store_ok (HT.out.grows hG) hM P 1 V rfl hP.1 hP.2
        have HG := Lib.hid hG
        have HP := Lib.hid hP
        clear hM hBw hR hG hne1 hne2 hP
        go_wp2_with fail
        refine hst.mono ?_
        rintro _ w2 ⟨rfl, hM2, hC2⟩
        clear hst cl
        have hG2 := hC2.to_grows HG.out (by simpa using HQ.out)
        have hB2 := HBw.out.chg hC2 (by simpa using HNE.out.1)
        have hR2 := HR.out.chg hC2 (by simpa using HNE.out.2)
        clear HBw HR HG hC2 hlb
        have hld := Load_ok (HT.out.grows hG2) hM2 P 1 rfl HP.out.1 HP.out.2
        rw [keeps_at] at hld
        have HB2 := Lib.hid hB2
        have HR2 := Lib.hid hR2
        have HG2 := Lib.hid hG2
        clear hB2 hR2 hG2
        go_wp2_with fail
        refine hld.mono ?_
        rintro _ w4 ⟨rfl, hg4⟩
        have hby := Bytes_ok (hM2.grows hg4) 0 512 (by omega)
        have HB4 := Lib.hid (HB2.out.grows hg4)
        have HR4 := Lib.hid (HR2.out.grows hg4)
        have HG4 := Lib.hid (HG2.out.trans hg4)
        have HM4 := Lib.hid (hM2.grows hg4)
        have HC : Hid (∀ i, (i < P ∨ P + 1 ≤ i) → putB B P (leB V 1) i = B i) := fun i hi => keeps_in hi
        generalize putB B P (leB V 1) = C at *
        clear hM2 hg4 HB2 HR2 HG2 hld
        (rw [load_1]; have hand : bits .and .u64 (V : Int) 255 = (V : Int) % 256 := and_mask_u64 (n := 8) (by omega) (by have := HV.out; omega) (by decide))
        go_wp2_with fail
        refine hby.mono ?_
        rintro _ w5 ⟨v, rfl, b5, cw5, rfl, r1, r2, hg5, hbw, hB5⟩
        have HB5 := Lib.hid (hB5.congr (C := C) (fun i _ => by rw [Nat.zero_add]))
        have HBw := Lib.hid (HB4.out.grows hg5)
        have HR5 := Lib.hid (HR4.out.grows hg5)
        have HG5 := Lib.hid (HG4.out.trans hg5)
        have HM5 := Lib.hid (HM4.out.grows hg5)
        have HNE5 : Hid (b5 ≠ q) := by show b5 ≠ q; have := HM4.out.qlt; omega
        clear hB5 hg5 hby HB4 HR4 HG4 HM4 hbw
        go_wp2_with fail
        go_loopw [18] (fun i wr => ∃ k : Nat, k ≤ 512 ∧ i = .int .i64 k ∧ Grows w5 wr) (fun i _ => (512 - intOf i).toNat)
        case atStart => exact ⟨0, by omega, rfl, Grows.refl _⟩
        case round =>
          obtain ⟨i, hi, rfl, hgr⟩ := hrel
          by_cases hlt : i < 512
          · have c1 : wr.cell? ⟨b5, i, none⟩ = some (.int .u8 (C i : Nat)) := by rw [hgr.cell HB5.out.blt]; exact HB5.out.cell hlt
            have c2 : wr.cell? ⟨bw, i, none⟩ = some (.int .u8 (B i : Nat)) := by rw [hgr.cell HBw.out.blt]; exact HBw.out.cell hlt
            have l1 := hgr.lt HB5.out.blt
            have l2 := hgr.lt HBw.out.blt
            have iw : IntKind.i64.wrap ((P : Int)) = P := by rw [IntKind.wrap_i64]; omega
            have iw2 : IntKind.i64.wrap ((P : Int) + 1) = P + 1 := by rw [IntKind.wrap_i64]; omega
            by_cases h1 : i < P
            · have hC : C i = B i := HC.out i (Or.inl h1)
              rw [hC] at c1
              clear hC
              have d1 : decide ((i : Int) < (P : Int)) = true := decide_eq_true (by omega)
              go_wp2_with fail
              refine wp_region_grow (by kernel_rfl) (by kernel_rfl) ?_
              repeat (go_big_quiet_step (fail))
              refine wpQuiet_nil ?_
              intro _ hw'
              obtain ⟨g6, rfl⟩ := hw'
              go_wp2_with fail
              exact ⟨⟨i + 1, by omega, by simp, hgr.grow _⟩, by simp [intOf]; omega⟩
            · have d1 : decide ((i : Int) < (P : Int)) = false := decide_eq_false (by omega)
              by_cases h2 : P + 1 ≤ i
              · have hC : C i = B i := HC.out i (Or.inr h2)
                rw [hC] at c1
                clear hC
                have d2 : decide (((P : Int) + 1) ≤ (i : Int)) = true := decide_eq_true (by omega)
                go_wp2_with fail
                refine wp_region_grow (by kernel_rfl) (by kernel_rfl) ?_
                repeat (go_big_quiet_step (fail))
                refine wpQuiet_nil ?_
                intro _ hw'
                obtain ⟨g6, rfl⟩ := hw'
                go_wp2_with fail
                exact ⟨⟨i + 1, by omega, by simp, hgr.grow _⟩, by simp [intOf]; omega⟩
              · have d2 : decide (((P : Int) + 1) ≤ (i : Int)) = false := decide_eq_false (by omega)
                go_wp2_with fail
                refine wp_region_grow (by kernel_rfl) (by kernel_rfl) ?_
                repeat (go_big_quiet_step (fail))
                refine wpQuiet_nil ?_
                intro _ hw'
                obtain ⟨g6, rfl⟩ := hw'
                go_wp2_with fail
                exact ⟨⟨i + 1, by omega, by simp, hgr.grow _⟩, by simp [intOf]; omega⟩
          · have : i = 512 := by omega
            subst this
            go_wp2_with fail
            exact ⟨⟨0 + 1, b5, cw5, C, by omega, by simp, rfl, r1, r2, HB5.out.grows hgr, HM5.out.grows hgr, HR5.out.grows hgr, HG5.out.trans hgr, HNE5.out, HNE.out.2⟩, by simp [intOf]⟩
      · have hP : place A 4 % 4 = 0 ∧ place A 4 + 4 ≤ 512 := place_facts A 4 (by omega)
        obtain ⟨P, hPe⟩ : ∃ P, P = place A 4 := ⟨_, rfl⟩
        rw [← hPe] at hP
        have hPz : (A : Int) % 512 / 4 * 4 = ((P : Nat) : Int) := by rw [hPe]; unfold place; omega
        clear hPe
        have cl : wr.cell? ⟨bl, 1, none⟩ = some (.int .i64 4) := hR.cell 1
        have HBw := Lib.hid hBw
        have HR := Lib.hid hR
        have HNE := Lib.hid (And.intro hne1 hne2)
        have hP2 := hP.2
        have hst := Store_ok (HT.out.grows hG) hM P 4 V rfl hP.1 hP.2
        have HG := Lib.hid hG
        have HP := Lib.hid hP
        clear hM hBw hR hG hne1 hne2 hP
        go_wp2_with fail
        refine hst.mono ?_
        rintro _ w2 ⟨rfl, hM2, hC2⟩
        clear hst cl
        have hG2 := hC2.to_grows HG.out (by simpa using HQ.out)
        have hB2 := HBw.out.chg hC2 (by simpa using HNE.out.1)
        have hR2 := HR.out.chg hC2 (by simpa using HNE.out.2)
        clear HBw HR HG hC2 hlb
        have hld := Load_ok (HT.out.grows hG2) hM2 P 4 rfl HP.out.1 HP.out.2
        rw [keeps_at] at hld
        have HB2 := Lib.hid hB2
        have HR2 := Lib.hid hR2
        have HG2 := Lib.hid hG2
        clear hB2 hR2 hG2
        go_wp2_with fail
        refine hld.mono ?_
        rintro _ w4 ⟨rfl, hg4⟩
        have hby := Bytes_ok (hM2.grows hg4) 0 512 (by omega)
        have HB4 := Lib.hid (HB2.out.grows hg4)
        have HR4 := Lib.hid (HR2.out.grows hg4)
        have HG4 := Lib.hid (HG2.out.trans hg4)
        have HM4 := Lib.hid (hM2.grows hg4)
        have HC : Hid (∀ i, (i < P ∨ P + 4 ≤ i) → putB B P (leB V 4) i = B i) := fun i hi => keeps_in hi
        generalize putB B P (leB V 4) = C at *
        clear hM2 hg4 HB2 HR2 HG2 hld
        rw [load_4]
        go_wp2_with fail
        refine hby.mono ?_
        rintro _ w5 ⟨v, rfl, b5, cw5, rfl, r1, r2, hg5, hbw, hB5⟩
        have HB5 := Lib.hid (hB5.congr (C := C) (fun i _ => by rw [Nat.zero_add]))
        have HBw := Lib.hid (HB4.out.grows hg5)
        have HR5 := Lib.hid (HR4.out.grows hg5)
        have HG5 := Lib.hid (HG4.out.trans hg5)
        have HM5 := Lib.hid (HM4.out.grows hg5)
        have HNE5 : Hid (b5 ≠ q) := by show b5 ≠ q; have := HM4.out.qlt; omega
        clear hB5 hg5 hby HB4 HR4 HG4 HM4 hbw
        go_wp2_with fail
        go_loopw [18] (fun i wr => ∃ k : Nat, k ≤ 512 ∧ i = .int .i64 k ∧ Grows w5 wr) (fun i _ => (512 - intOf i).toNat)
        case atStart => exact ⟨0, by omega, rfl, Grows.refl _⟩
        case round =>
          obtain ⟨i, hi, rfl, hgr⟩ := hrel
          by_cases hlt : i < 512
          · have c1 : wr.cell? ⟨b5, i, none⟩ = some (.int .u8 (C i : Nat)) := by rw [hgr.cell HB5.out.blt]; exact HB5.out.cell hlt
            have c2 : wr.cell? ⟨bw, i, none⟩ = some (.int .u8 (B i : Nat)) := by rw [hgr.cell HBw.out.blt]; exact HBw.out.cell hlt
            have l1 := hgr.lt HB5.out.blt
            have l2 := hgr.lt HBw.out.blt
            have iw : IntKind.i64.wrap ((P : Int)) = P := by rw [IntKind.wrap_i64]; omega
            have iw2 : IntKind.i64.wrap ((P : Int) + 4) = P + 4 := by rw [IntKind.wrap_i64]; omega
            by_cases h1 : i < P
            · have hC : C i = B i := HC.out i (Or.inl h1)
              rw [hC] at c1
              clear hC
              have d1 : decide ((i : Int) < (P : Int)) = true := decide_eq_true (by omega)
              go_wp2_with fail
              refine wp_region_grow (by kernel_rfl) (by kernel_rfl) ?_
              repeat (go_big_quiet_step (fail))
              refine wpQuiet_nil ?_
              intro _ hw'
              obtain ⟨g6, rfl⟩ := hw'
              go_wp2_with fail
              exact ⟨⟨i + 1, by omega, by simp, hgr.grow _⟩, by simp [intOf]; omega⟩
            · have d1 : decide ((i : Int) < (P : Int)) = false := decide_eq_false (by omega)
              by_cases h2 : P + 4 ≤ i
              · have hC : C i = B i := HC.out i (Or.inr h2)
                rw [hC] at c1
                clear hC
                have d2 : decide (((P : Int) + 4) ≤ (i : Int)) = true := decide_eq_true (by omega)
                go_wp2_with fail
                refine wp_region_grow (by kernel_rfl) (by kernel_rfl) ?_
                repeat (go_big_quiet_step (fail))
                refine wpQuiet_nil ?_
                intro _ hw'
                obtain ⟨g6, rfl⟩ := hw'
                go_wp2_with fail
                exact ⟨⟨i + 1, by omega, by simp, hgr.grow _⟩, by simp [intOf]; omega⟩
              · have d2 : decide (((P : Int) + 4) ≤ (i : Int)) = false := decide_eq_false (by omega)
                go_wp2_with fail
                refine wp_region_grow (by kernel_rfl) (by kernel_rfl) ?_
                repeat (go_big_quiet_step (fail))
                refine wpQuiet_nil ?_
                intro _ hw'
                obtain ⟨g6, rfl⟩ := hw'
                go_wp2_with fail
                exact ⟨⟨i + 1, by omega, by simp, hgr.grow _⟩, by simp [intOf]; omega⟩
          · have : i = 512 := by omega
            subst this
            go_wp2_with fail
            exact ⟨⟨1 + 1, b5, cw5, C, by omega, by simp, rfl, r1, r2, HB5.out.grows hgr, HM5.out.grows hgr, HR5.out.grows hgr, HG5.out.trans hgr, HNE5.out, HNE.out.2⟩, by simp [intOf]⟩
      · have hP : place A 8 % 8 = 0 ∧ place A 8 + 8 ≤ 512 := place_facts A 8 (by omega)
        obtain ⟨P, hPe⟩ : ∃ P, P = place A 8 := ⟨_, rfl⟩
        rw [← hPe] at hP
        have hPz : (A : Int) % 512 / 8 * 8 = ((P : Nat) : Int) := by rw [hPe]; unfold place; omega
        clear hPe
        have cl : wr.cell? ⟨bl, 2, none⟩ = some (.int .i64 8) := hR.cell 2
        have HBw := Lib.hid hBw
        have HR := Lib.hid hR
        have HNE := Lib.hid (And.intro hne1 hne2)
        have hP2 := hP.2
        have hst := Store_ok (HT.out.grows hG) hM P 8 V rfl hP.1 hP.2
        have HG := Lib.hid hG
        have HP := Lib.hid hP
        clear hM hBw hR hG hne1 hne2 hP
        go_wp2_with fail
        refine hst.mono ?_
        rintro _ w2 ⟨rfl, hM2, hC2⟩
        clear hst cl
        have hG2 := hC2.to_grows HG.out (by simpa using HQ.out)
        have hB2 := HBw.out.chg hC2 (by simpa using HNE.out.1)
        have hR2 := HR.out.chg hC2 (by simpa using HNE.out.2)
        clear HBw HR HG hC2 hlb
        have hld := Load_ok (HT.out.grows hG2) hM2 P 8 rfl HP.out.1 HP.out.2
        rw [keeps_at] at hld
        have HB2 := Lib.hid hB2
        have HR2 := Lib.hid hR2
        have HG2 := Lib.hid hG2
        clear hB2 hR2 hG2
        go_wp2_with fail
        refine hld.mono ?_
        rintro _ w4 ⟨rfl, hg4⟩
        have hby := Bytes_ok (hM2.grows hg4) 0 512 (by omega)
        have HB4 := Lib.hid (HB2.out.grows hg4)
        have HR4 := Lib.hid (HR2.out.grows hg4)
        have HG4 := Lib.hid (HG2.out.trans hg4)
        have HM4 := Lib.hid (hM2.grows hg4)
        have HC : Hid (∀ i, (i < P ∨ P + 8 ≤ i) → putB B P (leB V 8) i = B i) := fun i hi => keeps_in hi
        generalize putB B P (leB V 8) = C at *
        clear hM2 hg4 HB2 HR2 HG2 hld
        rw [load_8 V HV.out]
        go_wp2_with fail
        refine hby.mono ?_
        rintro _ w5 ⟨v, rfl, b5, cw5, rfl, r1, r2, hg5, hbw, hB5⟩
        have HB5 := Lib.hid (hB5.congr (C := C) (fun i _ => by rw [Nat.zero_add]))
        have HBw := Lib.hid (HB4.out.grows hg5)
        have HR5 := Lib.hid (HR4.out.grows hg5)
        have HG5 := Lib.hid (HG4.out.trans hg5)
        have HM5 := Lib.hid (HM4.out.grows hg5)
        have HNE5 : Hid (b5 ≠ q) := by show b5 ≠ q; have := HM4.out.qlt; omega
        clear hB5 hg5 hby HB4 HR4 HG4 HM4 hbw
        go_wp2_with fail
        go_loopw [18] (fun i wr => ∃ k : Nat, k ≤ 512 ∧ i = .int .i64 k ∧ Grows w5 wr) (fun i _ => (512 - intOf i).toNat)
        case atStart => exact ⟨0, by omega, rfl, Grows.refl _⟩
        case round =>
          obtain ⟨i, hi, rfl, hgr⟩ := hrel
          by_cases hlt : i < 512
          · have c1 : wr.cell? ⟨b5, i, none⟩ = some (.int .u8 (C i : Nat)) := by rw [hgr.cell HB5.out.blt]; exact HB5.out.cell hlt
            have c2 : wr.cell? ⟨bw, i, none⟩ = some (.int .u8 (B i : Nat)) := by rw [hgr.cell HBw.out.blt]; exact HBw.out.cell hlt
            have l1 := hgr.lt HB5.out.blt
            have l2 := hgr.lt HBw.out.blt
            have iw : IntKind.i64.wrap ((P : Int)) = P := by rw [IntKind.wrap_i64]; omega
            have iw2 : IntKind.i64.wrap ((P : Int) + 8) = P + 8 := by rw [IntKind.wrap_i64]; omega
            by_cases h1 : i < P
            · have hC : C i = B i := HC.out i (Or.inl h1)
              rw [hC] at c1
              clear hC
              have d1 : decide ((i : Int) < (P : Int)) = true := decide_eq_true (by omega)
              go_wp2_with fail
              refine wp_region_grow (by kernel_rfl) (by kernel_rfl) ?_
              repeat (go_big_quiet_step (fail))
              refine wpQuiet_nil ?_
              intro _ hw'
              obtain ⟨g6, rfl⟩ := hw'
              go_wp2_with fail
              exact ⟨⟨i + 1, by omega, by simp, hgr.grow _⟩, by simp [intOf]; omega⟩
            · have d1 : decide ((i : Int) < (P : Int)) = false := decide_eq_false (by omega)
              by_cases h2 : P + 8 ≤ i
              · have hC : C i = B i := HC.out i (Or.inr h2)
                rw [hC] at c1
                clear hC
                have d2 : decide (((P : Int) + 8) ≤ (i : Int)) = true := decide_eq_true (by omega)
                go_wp2_with fail
                refine wp_region_grow (by kernel_rfl) (by kernel_rfl) ?_
                repeat (go_big_quiet_step (fail))
                refine wpQuiet_nil ?_
                intro _ hw'
                obtain ⟨g6, rfl⟩ := hw'
                go_wp2_with fail
                exact ⟨⟨i + 1, by omega, by simp, hgr.grow _⟩, by simp [intOf]; omega⟩
              · have d2 : decide (((P : Int) + 8) ≤ (i : Int)) = false := decide_eq_false (by omega)
                go_wp2_with fail
                refine wp_region_grow (by kernel_rfl) (by kernel_rfl) ?_
                repeat (go_big_quiet_step (fail))
                refine wpQuiet_nil ?_
                intro _ hw'
                obtain ⟨g6, rfl⟩ := hw'
                go_wp2_with fail
                exact ⟨⟨i + 1, by omega, by simp, hgr.grow _⟩, by simp [intOf]; omega⟩
          · have : i = 512 := by omega
            subst this
            go_wp2_with fail
            exact ⟨⟨2 + 1, b5, cw5, C, by omega, by simp, rfl, r1, r2, HB5.out.grows hgr, HM5.out.grows hgr, HR5.out.grows hgr, HG5.out.trans hgr, HNE5.out, HNE.out.2⟩, by simp [intOf]⟩
      · go_wp2_with fail
        go_ret
        exact ⟨rfl, hG⟩
  · go_enter Tryd.func3, Tryd.ntmps3
    go_wp2_with fail
    refine (new_ok 2 (by omega) (by omega) _).mono ?_
    rintro _ w1 ⟨p, q, rfl, hM, hg, hp, hq, hqp⟩
    go_wp2_with fail
    refine (Put_ok (show Mem w1 p q 512 _ from hM) 0 n c a ds (HS2.out.grows hg) (by rw [HN.out]; omega) (by omega)).mono ?_
    rintro _ w2 ⟨rfl, hM2, hC2⟩
    have hg2 := hC2.to_grows hg (by simpa using hq)
    have HQ := Lib.hid hq
    clear hM hg hC2 hq
    go_wp2_with fail
    refine (Bytes_ok hM2 0 512 (by omega)).mono ?_
    rintro _ w3 ⟨v, rfl, bw, cw, rfl, hc1, hc2, hg3, hbw, hBw⟩
    have hM3 := hM2.grows hg3
    have hg3' := hg2.trans hg3
    have hBw2 := hBw.congr (C := (putB (fun _ => 0) 0 ds)) (fun i _ => by rw [Nat.zero_add])
    have hne : bw ≠ q := by have := hM2.qlt; omega
    have hqw := hM3.qlt
    generalize putB (fun _ => 0) 0 ds = B0 at *
    clear hM2 hg2 hBw hg3 hbw
    go_wp2_with fail
    obtain ⟨bl, hbl⟩ : ∃ bl, bl = w3.heap.size := ⟨_, rfl⟩
    have hrow : Row (w3.alloc (Obj.cells #[Value.int .i64 1, .int .i64 4, .int .i64 8] 3)) bl #[.int .i64 1, .int .i64 4, .int .i64 8] 3 := Row.new_at _ _ _ hbl
    have hM4 := hM3.grows ((Grows.refl w3).alloc (Obj.cells #[Value.int .i64 1, .int .i64 4, .int .i64 8] 3))
    have hB4 := hBw2.grows ((Grows.refl w3).alloc (Obj.cells #[Value.int .i64 1, .int .i64 4, .int .i64 8] 3))
    have hg4 := hg3'.alloc (Obj.cells #[Value.int .i64 1, .int .i64 4, .int .i64 8] 3)
    have hne2 : bl ≠ q := by omega
    rw [← hbl]
    clear hbl hM3 hBw2 hg3' hqw
    generalize (w3.alloc (Obj.cells #[Value.int .i64 1, .int .i64 4, .int .i64 8] 3)) = w4 at *
    go_loopw [9, 45] (fun was i wr => ∃ (k b c : Nat) (B : Nat → Nat), k ≤ 3 ∧ i = .int .i64 k ∧ was = .slice (some ⟨b, 0, none⟩) 512 c ∧ 512 ≤ c ∧ c ≤ 9223372036854775807 ∧ Bts wr b 512 B ∧ Mem wr p q 512 B ∧ Row wr bl #[.int .i64 1, .int .i64 4, .int .i64 8] 3 ∧ Grows W wr ∧ b ≠ q ∧ bl ≠ q) (fun _ i _ => (3 - intOf i).toNat)
    case atStart => exact ⟨0, bw, cw, B0, by omega, rfl, rfl, hc1, hc2, hB4, hM4, hrow, hg4, hne, hne2⟩
    case round =>
      clear hrow hg4 hM4 hB4 hne hne2 hc1 hc2
      obtain ⟨k', bw, cw, B, hk, rfl, rfl, hc1, hc2, hBw, hM, hR, hG, hne1, hne2⟩ := hrel
      have hlb := hR.lt
      have : k' = 0 ∨ k' = 1 ∨ k' = 2 ∨ k' = 3 := by omega
      rcases this with rfl | rfl | rfl | rfl
      · have hP : place A 1 % 1 = 0 ∧ place A 1 + 1 ≤ 512 := place_facts A 1 (by omega)
        obtain ⟨P, hPe⟩ : ∃ P, P = place A 1 := ⟨_, rfl⟩
        rw [← hPe] at hP
        have hPz : (A : Int) % 512 = ((P : Nat) : Int) := by rw [hPe]; unfold place; omega
        clear hPe
        have cl : wr.cell? ⟨bl, 0, none⟩ = some (.int .i64 1) := hR.cell 0
        have HBw := Lib.hid hBw
        have HR := Lib.hid hR
        have HNE := Lib.hid (And.intro hne1 hne2)
        have hP2 := hP.2
        have hst := Store_ok (HT.out.grows hG) hM P 1 V rfl hP.1 hP.2
        have HG := Lib.hid hG
        have HP := Lib.hid hP
        clear hM hBw hR hG hne1 hne2 hP
        go_wp2_with fail
        refine hst.mono ?_
        rintro _ w2 ⟨rfl, hM2, hC2⟩
        clear hst cl
        have hG2 := hC2.to_grows HG.out (by simpa using HQ.out)
        have hB2 := HBw.out.chg hC2 (by simpa using HNE.out.1)
        have hR2 := HR.out.chg hC2 (by simpa using HNE.out.2)
        clear HBw HR HG hC2 hlb
        have hld := Load_ok (HT.out.grows hG2) hM2 P 1 rfl HP.out.1 HP.out.2
        rw [keeps_at] at hld
        have HB2 := Lib.hid hB2
        have HR2 := Lib.hid hR2
        have HG2 := Lib.hid hG2
        clear hB2 hR2 hG2
        go_wp2_with fail
        refine hld.mono ?_
        rintro _ w4 ⟨rfl, hg4⟩
        have hby := Bytes_ok (hM2.grows hg4) 0 512 (by omega)
        have HB4 := Lib.hid (HB2.out.grows hg4)
        have HR4 := Lib.hid (HR2.out.grows hg4)
        have HG4 := Lib.hid (HG2.out.trans hg4)
        have HM4 := Lib.hid (hM2.grows hg4)
        have HC : Hid (∀ i, (i < P ∨ P + 1 ≤ i) → putB B P (leB V 1) i = B i) := fun i hi => keeps_in hi
        generalize putB B P (leB V 1) = C at *
        clear hM2 hg4 HB2 HR2 HG2 hld
        (rw [load_1]; have hand : bits .and .u64 (V : Int) 255 = (V : Int) % 256 := and_mask_u64 (n := 8) (by omega) (by have := HV.out; omega) (by decide))
        go_wp2_with fail
        refine hby.mono ?_
        rintro _ w5 ⟨v, rfl, b5, cw5, rfl, r1, r2, hg5, hbw, hB5⟩
        have HB5 := Lib.hid (hB5.congr (C := C) (fun i _ => by rw [Nat.zero_add]))
        have HBw := Lib.hid (HB4.out.grows hg5)
        have HR5 := Lib.hid (HR4.out.grows hg5)
        have HG5 := Lib.hid (HG4.out.trans hg5)
        have HM5 := Lib.hid (HM4.out.grows hg5)
        have HNE5 : Hid (b5 ≠ q) := by show b5 ≠ q; have := HM4.out.qlt; omega
        clear hB5 hg5 hby HB4 HR4 HG4 HM4 hbw
        go_wp2_with fail
        go_loopw [18] (fun i wr => ∃ k : Nat, k ≤ 512 ∧ i = .int .i64 k ∧ Grows w5 wr) (fun i _ => (512 - intOf i).toNat)
        case atStart => exact ⟨0, by omega, rfl, Grows.refl _⟩
        case round =>
          obtain ⟨i, hi, rfl, hgr⟩ := hrel
          by_cases hlt : i < 512
          · have c1 : wr.cell? ⟨b5, i, none⟩ = some (.int .u8 (C i : Nat)) := by rw [hgr.cell HB5.out.blt]; exact HB5.out.cell hlt
            have c2 : wr.cell? ⟨bw, i, none⟩ = some (.int .u8 (B i : Nat)) := by rw [hgr.cell HBw.out.blt]; exact HBw.out.cell hlt
            have l1 := hgr.lt HB5.out.blt
            have l2 := hgr.lt HBw.out.blt
            have iw : IntKind.i64.wrap ((P : Int)) = P := by rw [IntKind.wrap_i64]; omega
            have iw2 : IntKind.i64.wrap ((P : Int) + 1) = P + 1 := by rw [IntKind.wrap_i64]; omega
            by_cases h1 : i < P
            · have hC : C i = B i := HC.out i (Or.inl h1)
              rw [hC] at c1
              clear hC
              have d1 : decide ((i : Int) < (P : Int)) = true := decide_eq_true (by omega)
              go_wp2_with fail
              refine wp_region_grow (by kernel_rfl) (by kernel_rfl) ?_
              repeat (go_big_quiet_step (fail))
              refine wpQuiet_nil ?_
              intro _ hw'
              obtain ⟨g6, rfl⟩ := hw'
              go_wp2_with fail
              exact ⟨⟨i + 1, by omega, by simp, hgr.grow _⟩, by simp [intOf]; omega⟩
            · have d1 : decide ((i : Int) < (P : Int)) = false := decide_eq_false (by omega)
              by_cases h2 : P + 1 ≤ i
              · have hC : C i = B i := HC.out i (Or.inr h2)
                rw [hC] at c1
                clear hC
                have d2 : decide (((P : Int) + 1) ≤ (i : Int)) = true := decide_eq_true (by omega)
                go_wp2_with fail
                refine wp_region_grow (by kernel_rfl) (by kernel_rfl) ?_
                repeat (go_big_quiet_step (fail))
                refine wpQuiet_nil ?_
                intro _ hw'
                obtain ⟨g6, rfl⟩ := hw'
                go_wp2_with fail
                exact ⟨⟨i + 1, by omega, by simp, hgr.grow _⟩, by simp [intOf]; omega⟩
              · have d2 : decide (((P : Int) + 1) ≤ (i : Int)) = false := decide_eq_false (by omega)
                go_wp2_with fail
                refine wp_region_grow (by kernel_rfl) (by kernel_rfl) ?_
                repeat (go_big_quiet_step (fail))
                refine wpQuiet_nil ?_
                intro _ hw'
                obtain ⟨g6, rfl⟩ := hw'
                go_wp2_with fail
                exact ⟨⟨i + 1, by omega, by simp, hgr.grow _⟩, by simp [intOf]; omega⟩
          · have : i = 512 := by omega
            subst this
            go_wp2_with fail
            exact ⟨⟨0 + 1, b5, cw5, C, by omega, by simp, rfl, r1, r2, HB5.out.grows hgr, HM5.out.grows hgr, HR5.out.grows hgr, HG5.out.trans hgr, HNE5.out, HNE.out.2⟩, by simp [intOf]⟩
      · have hP : place A 4 % 4 = 0 ∧ place A 4 + 4 ≤ 512 := place_facts A 4 (by omega)
        obtain ⟨P, hPe⟩ : ∃ P, P = place A 4 := ⟨_, rfl⟩
        rw [← hPe] at hP
        have hPz : (A : Int) % 512 / 4 * 4 = ((P : Nat) : Int) := by rw [hPe]; unfold place; omega
        clear hPe
        have cl : wr.cell? ⟨bl, 1, none⟩ = some (.int .i64 4) := hR.cell 1
        have HBw := Lib.hid hBw
        have HR := Lib.hid hR
        have HNE := Lib.hid (And.intro hne1 hne2)
        have hP2 := hP.2
        have hst := Store_ok (HT.out.grows hG) hM P 4 V rfl hP.1 hP.2
        have HG := Lib.hid hG
        have HP := Lib.hid hP
        clear hM hBw hR hG hne1 hne2 hP
        go_wp2_with fail
        refine hst.mono ?_
        rintro _ w2 ⟨rfl, hM2, hC2⟩
        clear hst cl
        have hG2 := hC2.to_grows HG.out (by simpa using HQ.out)
        have hB2 := HBw.out.chg hC2 (by simpa using HNE.out.1)
        have hR2 := HR.out.chg hC2 (by simpa using HNE.out.2)
        clear HBw HR HG hC2 hlb
        have hld := Load_ok (HT.out.grows hG2) hM2 P 4 rfl HP.out.1 HP.out.2
        rw [keeps_at] at hld
        have HB2 := Lib.hid hB2
        have HR2 := Lib.hid hR2
        have HG2 := Lib.hid hG2
        clear hB2 hR2 hG2
        go_wp2_with fail
        refine hld.mono ?_
        rintro _ w4 ⟨rfl, hg4⟩
        have hby := Bytes_ok (hM2.grows hg4) 0 512 (by omega)
        have HB4 := Lib.hid (HB2.out.grows hg4)
        have HR4 := Lib.hid (HR2.out.grows hg4)
        have HG4 := Lib.hid (HG2.out.trans hg4)
        have HM4 := Lib.hid (hM2.grows hg4)
        have HC : Hid (∀ i, (i < P ∨ P + 4 ≤ i) → putB B P (leB V 4) i = B i) := fun i hi => keeps_in hi
        generalize putB B P (leB V 4) = C at *
        clear hM2 hg4 HB2 HR2 HG2 hld
        rw [load_4]
        go_wp2_with fail
        refine hby.mono ?_
        rintro _ w5 ⟨v, rfl, b5, cw5, rfl, r1, r2, hg5, hbw, hB5⟩
        have HB5 := Lib.hid (hB5.congr (C := C) (fun i _ => by rw [Nat.zero_add]))
        have HBw := Lib.hid (HB4.out.grows hg5)
        have HR5 := Lib.hid (HR4.out.grows hg5)
        have HG5 := Lib.hid (HG4.out.trans hg5)
        have HM5 := Lib.hid (HM4.out.grows hg5)
        have HNE5 : Hid (b5 ≠ q) := by show b5 ≠ q; have := HM4.out.qlt; omega
        clear hB5 hg5 hby HB4 HR4 HG4 HM4 hbw
        go_wp2_with fail
        go_loopw [18] (fun i wr => ∃ k : Nat, k ≤ 512 ∧ i = .int .i64 k ∧ Grows w5 wr) (fun i _ => (512 - intOf i).toNat)
        case atStart => exact ⟨0, by omega, rfl, Grows.refl _⟩
        case round =>
          obtain ⟨i, hi, rfl, hgr⟩ := hrel
          by_cases hlt : i < 512
          · have c1 : wr.cell? ⟨b5, i, none⟩ = some (.int .u8 (C i : Nat)) := by rw [hgr.cell HB5.out.blt]; exact HB5.out.cell hlt
            have c2 : wr.cell? ⟨bw, i, none⟩ = some (.int .u8 (B i : Nat)) := by rw [hgr.cell HBw.out.blt]; exact HBw.out.cell hlt
            have l1 := hgr.lt HB5.out.blt
            have l2 := hgr.lt HBw.out.blt
            have iw : IntKind.i64.wrap ((P : Int)) = P := by rw [IntKind.wrap_i64]; omega
            have iw2 : IntKind.i64.wrap ((P : Int) + 4) = P + 4 := by rw [IntKind.wrap_i64]; omega
            by_cases h1 : i < P
            · have hC : C i = B i := HC.out i (Or.inl h1)
              rw [hC] at c1
              clear hC
              have d1 : decide ((i : Int) < (P : Int)) = true := decide_eq_true (by omega)
              go_wp2_with fail
              refine wp_region_grow (by kernel_rfl) (by kernel_rfl) ?_
              repeat (go_big_quiet_step (fail))
              refine wpQuiet_nil ?_
              intro _ hw'
              obtain ⟨g6, rfl⟩ := hw'
              go_wp2_with fail
              exact ⟨⟨i + 1, by omega, by simp, hgr.grow _⟩, by simp [intOf]; omega⟩
            · have d1 : decide ((i : Int) < (P : Int)) = false := decide_eq_false (by omega)
              by_cases h2 : P + 4 ≤ i
              · have hC : C i = B i := HC.out i (Or.inr h2)
                rw [hC] at c1
                clear hC
                have d2 : decide (((P : Int) + 4) ≤ (i : Int)) = true := decide_eq_true (by omega)
                go_wp2_with fail
                refine wp_region_grow (by kernel_rfl) (by kernel_rfl) ?_
                repeat (go_big_quiet_step (fail))
                refine wpQuiet_nil ?_
                intro _ hw'
                obtain ⟨g6, rfl⟩ := hw'
                go_wp2_with fail
                exact ⟨⟨i + 1, by omega, by simp, hgr.grow _⟩, by simp [intOf]; omega⟩
              · have d2 : decide (((P : Int) + 4) ≤ (i : Int)) = false := decide_eq_false (by omega)
                go_wp2_with fail
                refine wp_region_grow (by kernel_rfl) (by kernel_rfl) ?_
                repeat (go_big_quiet_step (fail))
                refine wpQuiet_nil ?_
                intro _ hw'
                obtain ⟨g6, rfl⟩ := hw'
                go_wp2_with fail
                exact ⟨⟨i + 1, by omega, by simp, hgr.grow _⟩, by simp [intOf]; omega⟩
          · have : i = 512 := by omega
            subst this
            go_wp2_with fail
            exact ⟨⟨1 + 1, b5, cw5, C, by omega, by simp, rfl, r1, r2, HB5.out.grows hgr, HM5.out.grows hgr, HR5.out.grows hgr, HG5.out.trans hgr, HNE5.out, HNE.out.2⟩, by simp [intOf]⟩
      · have hP : place A 8 % 8 = 0 ∧ place A 8 + 8 ≤ 512 := place_facts A 8 (by omega)
        obtain ⟨P, hPe⟩ : ∃ P, P = place A 8 := ⟨_, rfl⟩
        rw [← hPe] at hP
        have hPz : (A : Int) % 512 / 8 * 8 = ((P : Nat) : Int) := by rw [hPe]; unfold place; omega
        clear hPe
        have cl : wr.cell? ⟨bl, 2, none⟩ = some (.int .i64 8) := hR.cell 2
        have HBw := Lib.hid hBw
        have HR := Lib.hid hR
        have HNE := Lib.hid (And.intro hne1 hne2)
        have hP2 := hP.2
        have hst := Store_ok (HT.out.grows hG) hM P 8 V rfl hP.1 hP.2
        have HG := Lib.hid hG
        have HP := Lib.hid hP
        clear hM hBw hR hG hne1 hne2 hP
        go_wp2_with fail
        refine hst.mono ?_
        rintro _ w2 ⟨rfl, hM2, hC2⟩
        clear hst cl
        have hG2 := hC2.to_grows HG.out (by simpa using HQ.out)
        have hB2 := HBw.out.chg hC2 (by simpa using HNE.out.1)
        have hR2 := HR.out.chg hC2 (by simpa using HNE.out.2)
        clear HBw HR HG hC2 hlb
        have hld := Load_ok (HT.out.grows hG2) hM2 P 8 rfl HP.out.1 HP.out.2
        rw [keeps_at] at hld
        have HB2 := Lib.hid hB2
        have HR2 := Lib.hid hR2
        have HG2 := Lib.hid hG2
        clear hB2 hR2 hG2
        go_wp2_with fail
        refine hld.mono ?_
        rintro _ w4 ⟨rfl, hg4⟩
        have hby := Bytes_ok (hM2.grows hg4) 0 512 (by omega)
        have HB4 := Lib.hid (HB2.out.grows hg4)
        have HR4 := Lib.hid (HR2.out.grows hg4)
        have HG4 := Lib.hid (HG2.out.trans hg4)
        have HM4 := Lib.hid (hM2.grows hg4)
        have HC : Hid (∀ i, (i < P ∨ P + 8 ≤ i) → putB B P (leB V 8) i = B i) := fun i hi => keeps_in hi
        generalize putB B P (leB V 8) = C at *
        clear hM2 hg4 HB2 HR2 HG2 hld
        rw [load_8 V HV.out]
        go_wp2_with fail
        refine hby.mono ?_
        rintro _ w5 ⟨v, rfl, b5, cw5, rfl, r1, r2, hg5, hbw, hB5⟩
        have HB5 := Lib.hid (hB5.congr (C := C) (fun i _ => by rw [Nat.zero_add]))
        have HBw := Lib.hid (HB4.out.grows hg5)
        have HR5 := Lib.hid (HR4.out.grows hg5)
        have HG5 := Lib.hid (HG4.out.trans hg5)
        have HM5 := Lib.hid (HM4.out.grows hg5)
        have HNE5 : Hid (b5 ≠ q) := by show b5 ≠ q; have := HM4.out.qlt; omega
        clear hB5 hg5 hby HB4 HR4 HG4 HM4 hbw
        go_wp2_with fail
        go_loopw [18] (fun i wr => ∃ k : Nat, k ≤ 512 ∧ i = .int .i64 k ∧ Grows w5 wr) (fun i _ => (512 - intOf i).toNat)
        case atStart => exact ⟨0, by omega, rfl, Grows.refl _⟩
        case round =>
          obtain ⟨i, hi, rfl, hgr⟩ := hrel
          by_cases hlt : i < 512
          · have c1 : wr.cell? ⟨b5, i, none⟩ = some (.int .u8 (C i : Nat)) := by rw [hgr.cell HB5.out.blt]; exact HB5.out.cell hlt
            have c2 : wr.cell? ⟨bw, i, none⟩ = some (.int .u8 (B i : Nat)) := by rw [hgr.cell HBw.out.blt]; exact HBw.out.cell hlt
            have l1 := hgr.lt HB5.out.blt
            have l2 := hgr.lt HBw.out.blt
            have iw : IntKind.i64.wrap ((P : Int)) = P := by rw [IntKind.wrap_i64]; omega
            have iw2 : IntKind.i64.wrap ((P : Int) + 8) = P + 8 := by rw [IntKind.wrap_i64]; omega
            by_cases h1 : i < P
            · have hC : C i = B i := HC.out i (Or.inl h1)
              rw [hC] at c1
              clear hC
              have d1 : decide ((i : Int) < (P : Int)) = true := decide_eq_true (by omega)
              go_wp2_with fail
              refine wp_region_grow (by kernel_rfl) (by kernel_rfl) ?_
              repeat (go_big_quiet_step (fail))
              refine wpQuiet_nil ?_
              intro _ hw'
              obtain ⟨g6, rfl⟩ := hw'
              go_wp2_with fail
              exact ⟨⟨i + 1, by omega, by simp, hgr.grow _⟩, by simp [intOf]; omega⟩
            · have d1 : decide ((i : Int) < (P : Int)) = false := decide_eq_false (by omega)
              by_cases h2 : P + 8 ≤ i
              · have hC : C i = B i := HC.out i (Or.inr h2)
                rw [hC] at c1
                clear hC
                have d2 : decide (((P : Int) + 8) ≤ (i : Int)) = true := decide_eq_true (by omega)
                go_wp2_with fail
                refine wp_region_grow (by kernel_rfl) (by kernel_rfl) ?_
                repeat (go_big_quiet_step (fail))
                refine wpQuiet_nil ?_
                intro _ hw'
                obtain ⟨g6, rfl⟩ := hw'
                go_wp2_with fail
                exact ⟨⟨i + 1, by omega, by simp, hgr.grow _⟩, by simp [intOf]; omega⟩
              · have d2 : decide (((P : Int) + 8) ≤ (i : Int)) = false := decide_eq_false (by omega)
                go_wp2_with fail
                refine wp_region_grow (by kernel_rfl) (by kernel_rfl) ?_
                repeat (go_big_quiet_step (fail))
                refine wpQuiet_nil ?_
                intro _ hw'
                obtain ⟨g6, rfl⟩ := hw'
                go_wp2_with fail
                exact ⟨⟨i + 1, by omega, by simp, hgr.grow _⟩, by simp [intOf]; omega⟩
          · have : i = 512 := by omega
            subst this
            go_wp2_with fail
            exact ⟨⟨2 + 1, b5, cw5, C, by omega, by simp, rfl, r1, r2, HB5.out.grows hgr, HM5.out.grows hgr, HR5.out.grows hgr, HG5.out.trans hgr, HNE5.out, HNE.out.2⟩, by simp [intOf]⟩
      · go_wp2_with fail
        go_ret
        exact ⟨rfl, hG⟩
section
variable {H : Type} {enc : TypeId × Value → H}
theorem memKeeps_walk (W : World) (at_ : Int) (wa : (Lit.int .u64 at_).wf = true) (v : Int) (wv : (Lit.int .u64 v).wf = true) (A : Option Addr) (n c : Nat) (X : Nat → List Value) (hnc : n ≤ c) (hsz : c * 1 < 140737488355328) (hX : SliceIs2 enc Tryd.prog W [5] A n X) (hA : A = none → c = 0) (hT : Widths W) :
    Calls Tryd.prog 3 #[.int .u64 at_, .int .u64 v, .slice A n c] W fun r w' => r = .returned (.bool true) ∧ Grows W w' := by
  have hv := bounds_u64 wv
  have ha := bounds_u64 wa
  obtain ⟨V, rfl⟩ := Int.eq_ofNat_of_zero_le (show 0 ≤ v by omega)
  obtain ⟨T, rfl⟩ := Int.eq_ofNat_of_zero_le (show 0 ≤ at_ by omega)
  obtain ⟨bs, hs, hl⟩ := src_of_slice hnc hA hX
  exact keeps_law hT T V (by omega) (by omega) hs hl hnc (by omega) hA
end
end Go.Proofs.YtoehigcojgeioaaDoor
