/- The walk of WordBytes. -/
import Derived.Test.YtecjomldekhbjaaDoorSrc
import Derived.Test.YtecjomldekhbjaaDoorSlice
namespace Go.Proofs.YtecjomldekhbjaaDoor
open Go Go.RowKit
set_option linter.unusedSimpArgs false
set_option linter.unusedVariables false
def SomeU8 (cs : Array Value) (n : Nat) : Prop := cs.size = n ∧ ∀ j, j < n → ∃ x, cs[j]? = some (.int .u8 x)
theorem someU8_of {L : List Nat} {n : Nat} (h : L.length = n) : SomeU8 (u8s L).toArray n :=
  ⟨by simp [h], fun j hj => ⟨_, by simp [h, hj]; rfl⟩⟩
theorem SomeU8.set {cs : Array Value} {n : Nat} (h : SomeU8 cs n) (k : Nat) (y : Int) : SomeU8 (cs.setIfInBounds k (.int .u8 y)) n := by
  refine ⟨by simp [h.1], fun j hj => ?_⟩
  rw [Array.getElem?_setIfInBounds]
  by_cases e : k = j
  · subst e
    rw [if_pos rfl, if_pos (by rw [h.1]; exact hj)]
    exact ⟨y, rfl⟩
  · rw [if_neg e]; exact h.2 j hj
theorem row_set8 {w : World} {b : Nat} {c : Array Value} {t : TypeId} (h : Row w b c t) (i : Nat) (v : Value) : Row (w.setCell ⟨b, i, none⟩ v) b (c.setIfInBounds i v) t := by
  unfold Row at *
  show (w.heap.modify b _)[b]? = _
  rw [Array.getElem?_modify, if_pos rfl, h]
  rfl
/-- Both loads tell the same. -/
theorem loads_same {W w2 : World} {A : Option Addr} {n c bi ci : Nat} {bs : List Nat} {p z : Int} (hb : Src W A bs) (hn : bs.length = n) (hnc : n ≤ c) (hc47 : c < 140737488355328) (hci : n ≤ ci) (hcm : (ci : Int) ≤ 9223372036854775807) (hbi : W.heap.size ≤ bi)
    (hBi : Bytes w2 bi 0 (bs ++ [90])) (hT : Widths w2) (hG : Grows W w2) (hbl : bi < w2.heap.size) :
    ∃ X ok, (∀ wr, Grows w2 wr → Calls Tryd.prog 8 #[.slice (some ⟨bi, 0, none⟩) n ci, .int .i64 p, .int .i64 z] wr fun r w' => r = .returned (.tuple #[.int .u64 X, .bool ok]) ∧ Grows wr w') ∧
      (∀ wr, Grows w2 wr → Calls Tryd.prog 9 #[.slice A n c, .int .i64 p, .int .i64 z] wr fun r w' => r = .returned (.tuple #[.int .u64 X, .bool ok]) ∧ Grows wr w') := by
  by_cases h : knownB z = false ∨ p < 0 ∨ (n : Int) - z < p
  · exact ⟨0, false, fun wr hg => load_no _ n ci p z wr (hT.grows hg) (by omega) h, fun wr hg => rload_no A n c p z wr (by omega) h⟩
  · have hk : knownB z = true := by
      cases hk : knownB z
      · exact absurd (Or.inl hk) h
      · rfl
    have hp : 0 ≤ p := by rcases Int.lt_or_le p 0 with h' | h'; exact absurd (Or.inr (Or.inl h')) h; exact h'
    have hpn : p ≤ (n : Int) - z := by rcases Int.lt_or_le ((n : Int) - z) p with h' | h'; exact absurd (Or.inr (Or.inr h')) h; exact h'
    have hz := knownB_cases hk
    obtain ⟨P, rfl⟩ := Int.eq_ofNat_of_zero_le hp
    obtain ⟨Z, rfl⟩ := Int.eq_ofNat_of_zero_le (show 0 ≤ z by omega)
    have h0 : 0 < bs.length := by omega
    obtain ⟨b, o, rfl, hbb, hB⟩ := hb.at0 h0
    refine ⟨_, true, fun wr hg => load_yes bi 0 n ci P Z ((bs.drop P).take Z) wr (hT.grows hg) hci (by omega) hk (by omega) (by simp; omega) (bytes_part (bytes_grows (bytes_head hBi) hbl hg) (by omega)) (hg.lt hbl), fun wr hg => rload_yes b o n c P Z ((bs.drop P).take Z) wr hnc (by omega) hk (by omega) (by simp; omega) (bytes_part (bytes_grows hB hbb (hG.trans hg)) (by omega))⟩
set_option maxRecDepth 100000 in
set_option maxHeartbeats 4000000 in
theorem bytes_law {W : World} (hT : Widths W) {A : Option Addr} {n c : Nat} {bs : List Nat} (hb : Src W A bs) (hn : bs.length = n) (hnc : n ≤ c) (hc47 : c < 140737488355328) (hcA : A = none → c = 0) (p : Int) (V : Nat) (hV : V < 18446744073709551616) :
    Calls Tryd.prog 3 #[.slice A n c, .int .i64 p, .int .u64 V] W fun r w' => r = .returned (.bool true) ∧ Grows W w' := by
  obtain ⟨i0, hi, hz0, hz1, hz2⟩ := info_parts info_u8
  have HV := Lib.hid hV
  clear hV
  go_enter Tryd.func3, Tryd.ntmps3
  have hown0 : (W.alloc (Obj.cells #[] 5)).ownsRow W.heap.size 5 1 (.slice (some ⟨W.heap.size, 0, none⟩) 0 0) 0 (u8s []) := ⟨rfl, Or.inr ⟨W.heap.size, 0, #[], rfl, Nat.le_refl _, Row.new _ _ _, Nat.le_refl _, by simp, rfl, rfl⟩⟩
  have hb0 := hb.grows ((Grows.refl W).alloc (Obj.cells #[] 5))
  have HO0 := Lib.hid hown0
  have HB0 := Lib.hid hb0
  have HB := Lib.hid hb
  have HN := Lib.hid hn
  have HCA := Lib.hid hcA
  clear hown0 hb0 hb hn hcA
  go_wp2_with (first
    | (at_builtin; refine wpList_append_src (hgd := by rfl) (s := .tmp 17) (x := .tmp 18) (ho := by rfl) (base := W.heap.size) (v := .slice (some ⟨W.heap.size, 0, none⟩) 0 0) (n := 0) (xs := []) (hs := by rfl) (hown := by exact HO0.out) (A := A) (bs := bs) (m := n) (c := c) (hx := by rfl) (hm := HN.out) (hb := by exact HB0.out) (h47 := by omega) (hbase := by simp) (hc := HCA.out) (h := ?_)
       intro v1 w1 hown1 hgr1 _
       have HG1 := Lib.hid (((Grows.refl W).alloc (Obj.cells #[] 5)).grown hgr1 (ownsRow_block HO0.out))
       have HO1 := Lib.hid (show w1.ownsRow W.heap.size 5 1 v1 n (u8s bs) by simpa using hown1)
       clear hown1 hgr1 HO0 HB0)
    | (at_builtin; refine wpList_append_own _ (by rfl) (.tmp 19) (.tmp 20) 22 (by rfl) W.heap.size 5 i0 (.int .u8 0) 1 1 Tryd.underlying22 hi hz0 hz1 hz2 (by rfl) (by decide) v1 n (u8s bs) (by rfl) (HO1.out.alloc _) ⟨w1.heap.size, 0, none⟩ 1 1 [.int .u8 90] (by rfl) (by rfl) ?c1 ?c2 ?c3 ?c4 ?c5 ?_
       case c1 => exact cell_one_new _ _ _
       case c2 => intro u hu; simp at hu; subst hu; rfl
       case c3 => unfold maxLen; omega
       case c4 => omega
       case c5 => have := HG1.out.size; simp; omega
       intro v2 w2 hown2 hgr2 _
       have HG2 := Lib.hid ((HG1.out.alloc _).grown hgr2 (ownsRow_block HO1.out))
       have HO2 := Lib.hid (show w2.ownsRow W.heap.size 5 1 v2 (n + 1) (u8s (bs ++ [90])) by rw [show u8s (bs ++ [90]) = u8s bs ++ [.int .u8 90] by simp]; exact hown2)
       clear hown2 hgr2 HO1 HG1))
  have hsb := someBytes_of_own (w := W) (bs := bs ++ [90]) (by rw [List.length_append, HN.out]; exact HO2.out) (by simp) HG2.out (by
    intro x hx
    rw [List.mem_append] at hx
    rcases hx with hx | hx
    · exact HB.out.1 x hx
    · simp at hx; omega)
  obtain ⟨bi, ci, hv2, hci, hcm, _, hbi, hbl, hBi⟩ := hsb
  rw [List.length_append, HN.out] at hv2 hci
  simp only [List.length_cons, List.length_nil] at hv2 hci
  obtain rfl : v2 = .slice (some ⟨bi, 0, none⟩) (n + 1) ci := by injection hv2
  have HBI := Lib.hid hBi
  have hT2 := hT.grows HG2.out
  have HT2 := Lib.hid hT2
  clear hv2 hBi HO2 hT hT2 i0 hi hz0 hz1 hz2
  have hci' : n ≤ ci := by omega
  go_loopw [8] (fun i wr => (∃ z : Int, -1 ≤ z ∧ z ≤ 10 ∧ i = .int .i64 z) ∧ Grows w2 wr) (fun i _ => (10 - intOf i).toNat)
  case atStart => exact ⟨⟨-1, by omega, by omega, rfl⟩, Grows.refl _⟩
  case round =>
    obtain ⟨⟨z, hz, hz', rfl⟩, hgr⟩ := hrel
    by_cases hlt : z ≤ 9
    · obtain ⟨X, ok, hLa, hLb⟩ := loads_same (A := A) (c := c) (bi := bi) (ci := ci) (p := p) (z := z) HB.out HN.out hnc hc47 hci' hcm hbi HBI.out HT2.out HG2.out hbl
      cases hk : knownB z
      · have hS1 := fun w hw => store_no (V : Int) z w hw hk
        have hS2 := fun w => rstore_no (V : Int) z w hk
        have hT3 := HT2.out.grows hgr
        clear hk
        go_wp2_with fail
        refine (hLa _ hgr).mono ?_
        rintro _ w3 ⟨rfl, g3, rfl⟩
        go_wp2_with fail
        refine (hLb _ (hgr.grow _)).mono ?_
        rintro _ w3 ⟨rfl, g4, rfl⟩
        go_wp2_with fail
        refine (hS1 _ (hT3.grows (Grows.of _ _))).mono ?_
        rintro _ w3 ⟨rfl, g5, rfl⟩
        go_wp2_with fail
        refine (hS1 _ (hT3.grows (Grows.of _ _))).mono ?_
        rintro _ w3 ⟨rfl, g6, rfl⟩
        go_wp2_with fail
        refine (hS2 _).mono ?_
        rintro _ w3 ⟨rfl, g7, rfl⟩
        have c0 := fun w => conv_nil w 0 0
        go_wp2_with fail
        go_loopw [16] (fun i wr => i = .int .i64 0 ∧ Grows w2 wr) (fun i _ => 0)
        case atStart => exact ⟨rfl, hgr.grow _⟩
        case round =>
          obtain ⟨rfl, hgr2⟩ := hrel
          have c1 := fun w => conv_nil w 0 0
          go_wp2_with fail
          exact ⟨⟨⟨z + 1, by omega, by omega, rfl⟩, hgr2⟩, by simp [intOf]; omega⟩
      · obtain ⟨Z, rfl⟩ := Int.eq_ofNat_of_zero_le (show 0 ≤ z by have := knownB_cases hk; omega)
        have hS1 := fun w hw => store_yes V Z w hw hk
        have hS2 := fun w => rstore_yes V Z w hk
        have hL256 := leB_lt V Z
        have hLen := leB_length V Z
        have hZ8 : Z ≤ 8 := by have := knownB_cases hk; omega
        obtain ⟨L, hL⟩ : ∃ L, L = leB V Z := ⟨_, rfl⟩
        rw [← hL] at hS1 hS2 hL256 hLen
        have HLen := Lib.hid hLen
        have HL := Lib.hid hL256
        have hT3 := HT2.out.grows hgr
        clear hk hL hLen hL256
        go_wp2_with fail
        refine (hLa _ hgr).mono ?_
        rintro _ w3 ⟨rfl, g3, rfl⟩
        go_wp2_with fail
        refine (hLb _ (hgr.grow _)).mono ?_
        rintro _ w3 ⟨rfl, g4, rfl⟩
        go_wp2_with fail
        refine (hS1 _ (hT3.grows (Grows.of _ _))).mono ?_
        rintro _ w3 ⟨b1, rfl, hg3, hb1, hr1⟩
        have G3 := Lib.hid (show Grows wr w3 from ((Grows.refl wr).grow _).trans hg3)
        have HB1 := Lib.hid (show w2.heap.size ≤ b1 by have := hgr.size; simp at hb1; omega)
        rw [HLen.out]
        clear hg3 hb1
        go_wp2_with fail
        refine (hS1 _ (hT3.grows G3.out)).mono ?_
        rintro _ w4 ⟨b2, rfl, hg4, hb2, hr2⟩
        have h12 : b1 < b2 := by have := hr1.lt; omega
        replace hr1 := hr1.grows hg4
        have G4 := Lib.hid (G3.out.trans hg4)
        rw [HLen.out]
        clear hg4 hb2 G3
        go_wp2_with fail
        refine (hS2 _).mono ?_
        rintro _ w5 ⟨b5, c5, he5, hc5, hc5m, hg5, hb5, hbl5, hB5⟩
        rw [HLen.out] at he5
        subst he5
        have h15 : b1 < b5 := by have := hr1.lt; omega
        replace hr1 := hr1.grows hg5
        replace hr2 := hr2.grows hg5
        have G5 := Lib.hid (G4.out.trans hg5)
        have HB5 := Lib.hid hB5
        have HR2 := Lib.hid hr2
        have HC5 := Lib.hid hc5
        have HC5M := Lib.hid hc5m
        clear hg5 hb5 G4 hB5 hr2 hS1 hS2 hLa hLb hc5 hc5m
        obtain ⟨S, hS⟩ : ∃ S, S = strB L := ⟨_, rfl⟩
        have k1 : (convert 22 9 (.slice (some ⟨b1, 0, none⟩) Z Z)).run Tryd.prog w5 = .ok (.string S) w5 := by
          rw [hS]; exact conv_bytes HLen.out (row_bytes hr1 HL.out)
        have k2 : (convert 22 9 (.slice (some ⟨b5, 0, none⟩) Z c5)).run Tryd.prog w5 = .ok (.string S) w5 := by
          rw [hS]; exact conv_bytes HLen.out HB5.out
        have HS := Lib.hid hS
        clear hS
        go_wp2_with fail
        clear k1 k2
        have hrow : Row w5 b1 (u8s L).toArray 5 := hr1
        have HG5 := Lib.hid (hgr.trans G5.out)
        clear hr1 hgr G5
        go_loopw [16] (fun i wr => (∃ k : Nat, k ≤ Z ∧ i = .int .i64 k) ∧ (∃ cs, Row wr b1 cs 5 ∧ SomeU8 cs Z) ∧ Turn b1 w5 wr) (fun i _ => (Z - intOf i).toNat)
        case atStart => exact ⟨⟨0, by omega, rfl⟩, ⟨_, hrow, someU8_of HLen.out⟩, Turn.refl _ _⟩
        case round =>
          obtain ⟨⟨k, hk, rfl⟩, ⟨cs, hcs, hu8⟩, hturn⟩ := hrel
          clear hrow
          by_cases hlt : k < Z
          · obtain ⟨x, hx⟩ := hu8.2 k hlt
            have ck : wr.cell? ⟨b1, k, none⟩ = some (.int .u8 x) := by rw [hcs.cell]; exact hx
            have fk := hcs.frozen k
            have lk := hcs.lt
            have HCS := Lib.hid hcs
            have HU := Lib.hid hu8
            have HTU := Lib.hid hturn
            clear hcs hu8 hturn hx
            go_wp2_with fail
            exact ⟨⟨⟨k + 1, by omega, by simp⟩, ⟨_, row_set8 HCS.out k _, HU.out.set k _⟩, HTU.out.setCell k _⟩, by simp [intOf]; omega⟩
          · have : k = Z := by omega
            subst this
            have k1 : (convert 22 9 (.slice (some ⟨b2, 0, none⟩) k k)).run Tryd.prog wr = .ok (.string S) wr := by
              rw [HS.out]; exact conv_bytes HLen.out (row_bytes (HR2.out.turn (by omega) hturn) HL.out)
            have k2 : (convert 22 9 (.slice (some ⟨b5, 0, none⟩) k c5)).run Tryd.prog wr = .ok (.string S) wr := by
              rw [HS.out]; exact conv_bytes HLen.out ⟨HB5.out.1, fun i hi => by rw [hturn.cell hbl5 (by omega)]; exact HB5.out.2 i hi⟩
            have HTU := Lib.hid hturn
            clear hcs hu8 hturn
            go_wp2_with fail
            exact ⟨⟨⟨(k : Int) + 1, by omega, by omega, rfl⟩, HG5.out.turn HB1.out HTU.out⟩, by simp [intOf]; omega⟩
    · have : z = 10 := by omega
      subst this
      obtain ⟨S, hS⟩ : ∃ S, S = strB bs := ⟨_, rfl⟩
      have k1 : (convert 22 9 (.slice (some ⟨bi, 0, none⟩) (n + 1) ci)).run Tryd.prog wr = .ok (.string (S ++ ⟨#[90]⟩)) wr := by
        have := conv_bytes (c := ci) (n := n + 1) (by simp [HN.out]) (bytes_grows HBI.out hbl hgr)
        rw [strB_snoc bs 90 (by decide), ← hS] at this
        exact this
      have k2 : (convert 22 9 (.slice A n c)).run Tryd.prog wr = .ok (.string S) wr := by
        rw [hS]; exact (HB.out.grows (HG2.out.trans hgr)).conv n c HN.out
      have hsz : S.size ≤ 140737488355327 := by rw [hS, strB_size, HN.out]; omega
      clear hS
      go_wp2_with fail
      go_ret
      exact ⟨by simp, HG2.out.trans hgr⟩
section
variable {H : Type} {enc : TypeId × Value → H}
theorem wordBytes_walk (W : World) (A : Option Addr) (n c : Nat) (X : Nat → List Value) (hnc : n ≤ c) (hsz : c * 1 < 140737488355328) (hX : SliceIs enc Tryd.prog W [5] A n X) (hA : A = none → c = 0) (p : Int) (_ : (Lit.int .i64 p).wf = true) (v : Int) (wv : (Lit.int .u64 v).wf = true) (hT : Widths W) :
    Calls Tryd.prog 3 #[.slice A n c, .int .i64 p, .int .u64 v] W fun r w' => r = .returned (.bool true) ∧ Grows W w' := by
  have hv := bounds_u64 wv
  obtain ⟨V, rfl⟩ := Int.eq_ofNat_of_zero_le (show 0 ≤ v by omega)
  have hx : ∀ i, i < n → ∃ y : Nat, y < 256 ∧ ∃ b o, A = some ⟨b, o, none⟩ ∧ b < W.heap.size ∧ W.cell? ⟨b, o + i, none⟩ = some (.int .u8 y) := by
    intro i hi
    obtain ⟨b, o, hA, hb, hL, hc⟩ := hX i hi
    obtain ⟨c0, cs0, e0, l0, hL⟩ := hL.cons
    obtain ⟨y, rfl, hy⟩ := l0.int Tryd.underlying5
    have hyb := bounds_u8 hy
    obtain ⟨Y, rfl⟩ := Int.eq_ofNat_of_zero_le (show 0 ≤ y by omega)
    refine ⟨Y, by omega, b, o, hA, hb, ?_⟩
    have := hc 0 (by decide)
    rw [e0] at this
    simpa using this
  obtain ⟨f, hf⟩ := Go.Deep.choose_lt (p := fun i y => y < 256 ∧ ∃ b o, A = some ⟨b, o, none⟩ ∧ b < W.heap.size ∧ W.cell? ⟨b, o + i, none⟩ = some (.int .u8 (y : Nat))) hx
  refine bytes_law hT (A := A) (n := n) (c := c) (bs := (List.range n).map f) ⟨?_, ?_⟩ (by simp) hnc (by omega) hA p V (by omega)
  · intro x hx
    simp at hx
    obtain ⟨i, hi, rfl⟩ := hx
    exact (hf i hi).1
  · cases A with
    | none =>
      left
      have : n = 0 := by have := hA rfl; omega
      subst this
      exact ⟨rfl, rfl⟩
    | some ad =>
      right
      refine ⟨ad, rfl, fun j hj => ?_⟩
      simp at hj
      obtain ⟨_, b, o, e, hb, hc⟩ := hf j hj
      refine ⟨b, o, by injection e, hb, ?_⟩
      rw [hc]
      simp [List.getD, hj]
end
end Go.Proofs.YtecjomldekhbjaaDoor
