/- Bytes that come in: read, appended, told as a string. -/
import Derived.Test.YtlchlklbjocliaaDoorBytes
import Derived.Test.YtlchlklbjocliaaDoorTurn
import Derived.Test.YtlchlklbjocliaaDoorSlice2
import Derived.Laws.BytesArg
import Derived.Laws.AppendOwnNone
import Derived.Laws.BytesString
namespace Go.Proofs.YtlchlklbjocliaaDoor
open Go Go.RowKit
set_option linter.unusedSimpArgs false
set_option linter.unusedVariables false
set_option maxRecDepth 100000
/-- A slice of bytes, nil let in. -/
def Src (w : World) (A : Option Addr) (bs : List Nat) : Prop :=
  (∀ x ∈ bs, x < 256) ∧ ((A = none ∧ bs = []) ∨ ∃ ad, A = some ad ∧ ∀ j, j < bs.length → ∃ b o, ad = ⟨b, o, none⟩ ∧ b < w.heap.size ∧ w.cell? ⟨b, o + j, none⟩ = some (.int .u8 (bs.getD j 0 : Nat)))
theorem Src.grows {w w' : World} {A : Option Addr} {bs : List Nat} (h : Src w A bs) (hg : Grows w w') : Src w' A bs := by
  refine ⟨h.1, ?_⟩
  rcases h.2 with h | ⟨ad, ha, h⟩
  · exact Or.inl h
  · refine Or.inr ⟨ad, ha, fun j hj => ?_⟩
    obtain ⟨b, o, e, hb, hc⟩ := h j hj
    exact ⟨b, o, e, hg.lt hb, by rw [hg.cell hb]; exact hc⟩
theorem Src.at0 {w : World} {A : Option Addr} {bs : List Nat} (h : Src w A bs) (h0 : 0 < bs.length) : ∃ b o, A = some ⟨b, o, none⟩ ∧ b < w.heap.size ∧ Bytes w b o bs := by
  rcases h.2 with ⟨_, e⟩ | ⟨ad, ha, hc⟩
  · rw [e] at h0; simp at h0
  · obtain ⟨b, o, rfl, hb, _⟩ := hc 0 h0
    refine ⟨b, o, ha, hb, h.1, fun i hi => ?_⟩
    obtain ⟨b', o', e, _, hc'⟩ := hc i hi
    injection e with e1 e2 e3
    subst e1; subst e2
    exact hc'
def strB (bs : List Nat) : ByteArray := strOfNums (bs.map fun x => ((x : Nat) : Int))
theorem conv_bytes {w : World} {b o n c : Nat} {bs : List Nat} (hn : bs.length = n) (h : Bytes w b o bs) : (convert 70 9 (.slice (some ⟨b, o, none⟩) n c)).run Tryd.prog w = .ok (.string (strB bs)) w := by
  refine run_convert_bytes_arg w 70 5 Tryd.underlying70 Tryd.underlying5 b o n c (bs.map fun x => ((x : Nat) : Int)) (by simpa using hn) (fun i hi => ?_) 9 Tryd.underlying9
  rw [h.2 i (by omega)]
  simp [List.getD, List.getElem?_map, List.getElem?_eq_getElem (show i < bs.length by omega)]
theorem conv_nil (w : World) (n c : Nat) : (convert 70 9 (.slice none n c)).run Tryd.prog w = .ok (.string (strB [])) w :=
  run_convert_bytes_nil w 70 5 Tryd.underlying70 Tryd.underlying5 n c 9 Tryd.underlying9
theorem conv_zero (w : World) (A : Option Addr) (c : Nat) : (convert 70 9 (.slice A 0 c)).run Tryd.prog w = .ok (.string (strB [])) w := by
  rw [run_convert_bytes_string w 70 9 5 _ 0 c Tryd.underlying70 Tryd.underlying5 Tryd.underlying9]
  cases A <;> simp [Conv.bytesToString, loadCells]
  all_goals rfl
theorem Src.conv {w : World} {A : Option Addr} {bs : List Nat} (h : Src w A bs) (n c : Nat) (hn : bs.length = n) : (convert 70 9 (.slice A n c)).run Tryd.prog w = .ok (.string (strB bs)) w := by
  rcases Nat.eq_zero_or_pos bs.length with h0 | h0
  · have : bs = [] := List.eq_nil_of_length_eq_zero h0
    subst this
    simp at hn
    subst hn
    exact conv_zero w A c
  · obtain ⟨b, o, rfl, _, hB⟩ := h.at0 h0
    exact conv_bytes hn hB
theorem strB_snoc (bs : List Nat) (x : Nat) (hx : x < 256) : strB (bs ++ [x]) = strB bs ++ ⟨#[UInt8.ofNat x]⟩ := by
  unfold strB strOfNums
  apply ByteArray.ext
  simp
abbrev u8s (bs : List Nat) : List Value := bs.map fun x => Value.int .u8 (x : Nat)
/-- append(s, x...) where x came in. -/
theorem wpList_append_src {w : World} {ops : Array Oper} {rest : List Oper} {o : Oper} {a : Act} {Q : Exit → Act → World → Prop} (hgd : o.guard = none) (s x : Operand)
    (ho : o.op = .call { callee := .builtin .append, args := #[s, x], argTypes := #[70, 70] }) (base : Nat) (v : Value) (n : Nat) (xs : List Nat) (hs : a.eval s = v) (hown : w.ownsRow base 5 1 v n (u8s xs))
    (A : Option Addr) (bs : List Nat) (m c : Nat) (hx : a.eval x = .slice A m c) (hm : bs.length = m) (hb : Src w A bs) (h47 : n + m ≤ 140737488355328) (hbase : base ≤ w.heap.size) (hc : A = none → c = 0)
    (h : ∀ v' w', w'.ownsRow base 5 1 v' (n + m) (u8s (xs ++ bs)) → w.grownBy w' v.ownBlock → (v' = .slice none 0 0 → v = .slice none 0 0) → wpList Tryd.prog ops Q rest (a.put o.dst v') w') : wpList Tryd.prog ops Q (o :: rest) a w := by
  obtain ⟨i0, hi, hz0, hz1, hz2⟩ := info_parts info_u8
  rcases hb.2 with ⟨rfl, rfl⟩ | ⟨ad, rfl, hcell⟩
  · simp at hm
    subst hm
    rw [hc rfl] at hx
    refine wpList_append_own_none hgd s x 70 ho base 5 i0 1 Tryd.underlying70 hi v n (u8s xs) hs hown hx ?_
    exact h v w (by simpa using hown) (World.grownBy.refl _ _) id
  · refine wpList_append_own _ hgd s x 70 ho base 5 i0 (.int .u8 0) 1 1 Tryd.underlying70 hi hz0 hz1 hz2 rfl (by decide) v n (u8s xs) hs hown ad m c (u8s bs) hx (by simpa using hm) (fun j u hu => ?_) (fun u hu => ?_) (by unfold maxLen; omega) (by omega) hbase (fun v' w' h1 h2 h3 => ?_)
    · have hj : j < bs.length := by
        rcases Nat.lt_or_ge j bs.length with h | h
        · exact h
        · rw [List.getElem?_eq_none (by simpa using h)] at hu; cases hu
      obtain ⟨b, o, rfl, _, hcj⟩ := hcell j hj
      have e : (⟨b, o, none⟩ : Addr).add j = ⟨b, o + j, none⟩ := by unfold Addr.add; split <;> simp_all
      rw [e, hcj]
      rw [List.getElem?_map, List.getElem?_eq_getElem hj] at hu
      simpa [List.getD, List.getElem?_eq_getElem hj] using hu
    · simp at hu
      obtain ⟨y, _, rfl⟩ := hu
      rfl
    · exact h v' w' (by rw [show u8s (xs ++ bs) = u8s xs ++ u8s bs by simp]; exact h1) h2 (fun h => (h3.1 h).1)
theorem bytes_grows {w w' : World} {b o : Nat} {bs : List Nat} (h : Bytes w b o bs) (hb : b < w.heap.size) (hg : Grows w w') : Bytes w' b o bs :=
  ⟨h.1, fun i hi => by rw [hg.cell hb]; exact h.2 i hi⟩
theorem bytes_part {w : World} {b o P L : Nat} {bs : List Nat} (h : Bytes w b o bs) (hP : P + L ≤ bs.length) : Bytes w b (o + P) ((bs.drop P).take L) := by
  refine ⟨fun x hx => h.1 x (List.mem_of_mem_drop (List.mem_of_mem_take hx)), fun i hi => ?_⟩
  simp at hi
  rw [Nat.add_assoc, h.2 (P + i) (by omega)]
  have : ((bs.drop P).take L).getD i 0 = bs.getD (P + i) 0 := by
    simp only [List.getD]
    rw [List.getElem?_take_of_lt (by omega), List.getElem?_drop]
  rw [this]
theorem bytes_head {w : World} {b o : Nat} {xs ys : List Nat} (h : Bytes w b o (xs ++ ys)) : Bytes w b o xs := by
  refine ⟨fun x hx => h.1 x (List.mem_append_left _ hx), fun i hi => ?_⟩
  rw [h.2 i (by simp; omega)]
  simp [List.getD, List.getElem?_append_left hi]
theorem strB_size (bs : List Nat) : (strB bs).size = bs.length := by
  unfold strB strOfNums
  simp [ByteArray.size]
theorem Src.of_bytes {w : World} {b o : Nat} {bs : List Nat} (h : Bytes w b o bs) (hb : b < w.heap.size) : Src w (some ⟨b, o, none⟩) bs :=
  ⟨h.1, Or.inr ⟨_, rfl, fun j hj => ⟨b, o, rfl, hb, h.2 j hj⟩⟩⟩
/-- Cells of bytes, one by one, are a slice of bytes. -/
theorem src_of_cells {W : World} {A : Option Addr} {n c : Nat} (hnc : n ≤ c) (hA : A = none → c = 0)
    (hx : ∀ i, i < n → ∃ y : Nat, y < 256 ∧ ∃ b o, A = some ⟨b, o, none⟩ ∧ b < W.heap.size ∧ W.cell? ⟨b, o + i, none⟩ = some (.int .u8 y)) : ∃ bs, Src W A bs ∧ bs.length = n := by
  obtain ⟨f, hf⟩ := Go.Deep.choose_lt (p := fun i y => y < 256 ∧ ∃ b o, A = some ⟨b, o, none⟩ ∧ b < W.heap.size ∧ W.cell? ⟨b, o + i, none⟩ = some (.int .u8 (y : Nat))) hx
  refine ⟨(List.range n).map f, ⟨?_, ?_⟩, by simp⟩
  · intro x hx
    simp at hx
    obtain ⟨i, hi, rfl⟩ := hx
    exact (hf i hi).1
  · cases A with
    | none =>
      left
      have : n = 0 := by have := hA rfl; omega
      subst this
      exact ⟨rfl, rfl⟩
    | some ad =>
      right
      refine ⟨ad, rfl, fun j hj => ?_⟩
      simp at hj
      obtain ⟨_, b, o, e, hb, hc⟩ := hf j hj
      refine ⟨b, o, by injection e, hb, ?_⟩
      rw [hc]
      simp [List.getD, hj]
section
variable {H : Type} {enc : TypeId × Value → H}
theorem src_of_slice {W : World} {A : Option Addr} {n c : Nat} {X : Nat → List Value} (hnc : n ≤ c) (hA : A = none → c = 0) (hX : SliceIs2 enc Tryd.prog W [5] A n X) : ∃ bs, Src W A bs ∧ bs.length = n := by
  refine src_of_cells hnc hA fun i hi => ?_
  obtain ⟨b, o, hA, hb, hL, hc⟩ := hX i hi
  obtain ⟨c0, cs0, e0, l0, hL⟩ := hL.cons
  obtain ⟨y, rfl, hy⟩ := l0.int Tryd.underlying5
  have hyb := bounds_u8 hy
  obtain ⟨Y, rfl⟩ := Int.eq_ofNat_of_zero_le (show 0 ≤ y by omega)
  refine ⟨Y, by omega, b, o, hA, hb, ?_⟩
  have := hc 0 (by decide)
  rw [e0] at this
  simpa using this
end
end Go.Proofs.YtlchlklbjocliaaDoor
