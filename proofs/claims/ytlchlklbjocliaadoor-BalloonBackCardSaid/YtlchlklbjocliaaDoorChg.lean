/- What a call turns: a list of blocks; a row of bytes told by a function. -/
import Derived.Test.YtlchlklbjocliaaDoorBase
import Derived.Laws.Rows
import Derived.Laws.CopyOwn
import Derived.Lib.SliceRun
import Derived.Laws.MakeOwn
namespace Go
open Go.RowKit
set_option linter.unusedSimpArgs false
set_option linter.unusedVariables false
set_option maxRecDepth 100000
/-- Nothing but the blocks of S turned; blocks may have come. -/
def Chg (S : List Nat) (w w' : World) : Prop :=
  w.heap.size ≤ w'.heap.size ∧ w'.os = w.os ∧ w'.tape = w.tape ∧ w'.output = w.output ∧ ∀ k, k < w.heap.size → k ∉ S → w'.heap[k]? = w.heap[k]?
theorem Chg.refl (S : List Nat) (w : World) : Chg S w w := ⟨Nat.le_refl _, rfl, rfl, rfl, fun _ _ _ => rfl⟩
theorem Chg.size {S : List Nat} {w w' : World} (h : Chg S w w') : w.heap.size ≤ w'.heap.size := h.1
theorem Chg.get {S : List Nat} {w w' : World} (h : Chg S w w') {k : Nat} (hk : k < w.heap.size) (hn : k ∉ S) : w'.heap[k]? = w.heap[k]? := h.2.2.2.2 k hk hn
theorem Chg.lt {S : List Nat} {w w' : World} (h : Chg S w w') {k : Nat} (hk : k < w.heap.size) : k < w'.heap.size := Nat.lt_of_lt_of_le hk h.1
/-- One change behind another; what turns in the second is of S, or new. -/
theorem Chg.step {S T : List Nat} {a b c : World} (h : Chg S a b) (g : Chg T b c) (hT : ∀ k ∈ T, k ∈ S ∨ a.heap.size ≤ k) : Chg S a c := by
  refine ⟨Nat.le_trans h.1 g.1, g.2.1.trans h.2.1, g.2.2.1.trans h.2.2.1, g.2.2.2.1.trans h.2.2.2.1, fun k hk hn => ?_⟩
  rw [g.get (h.lt hk) (fun hkT => ?_), h.get hk hn]
  rcases hT k hkT with h' | h'
  · exact hn h'
  · omega
theorem Chg.trans {S : List Nat} {a b c : World} (h : Chg S a b) (g : Chg S b c) : Chg S a c := h.step g (fun _ hk => Or.inl hk)
theorem Chg.weaken {S T : List Nat} {a b : World} (h : Chg S a b) (hT : ∀ k ∈ S, k ∈ T ∨ a.heap.size ≤ k) : Chg T a b := (Chg.refl T a).step h hT
theorem Chg.of_grows {S : List Nat} {a b : World} (h : Grows a b) : Chg S a b := ⟨h.size, h.below.os, h.below.tape, h.below.output, fun k hk _ => h.get hk⟩
theorem Chg.grow {S : List Nat} {a b : World} (h : Chg S a b) (g : Pad) : Chg S a (b.grow g) := h.trans (Chg.of_grows (Grows.of b g))
theorem Chg.drew {S : List Nat} {a b : World} (h : Chg S a b) : Chg S a b.drew := h
theorem Chg.alloc {S : List Nat} {a b : World} (h : Chg S a b) (o : Obj) : Chg S a (b.alloc o) := h.trans (Chg.of_grows ((Grows.refl b).alloc o))
theorem Chg.grows {S : List Nat} {a b c : World} (h : Chg S a b) (g : Grows b c) : Chg S a c := h.trans (Chg.of_grows g)
theorem Chg.to_grows {S : List Nat} {a w w' : World} (h : Chg S w w') (hg : Grows a w) (hS : ∀ k ∈ S, a.heap.size ≤ k) : Grows a w' := by
  refine Grows.of_heap (h.2.1.trans hg.below.os) (h.2.2.1.trans hg.below.tape) (h.2.2.2.1.trans hg.below.output) (Nat.le_trans hg.size h.1) (fun k hk => ?_)
  rw [h.get (hg.lt hk) (fun hk' => by have := hS k hk'; omega), hg.get hk]
theorem Chg.nil_grows {a b : World} (h : Chg [] a b) : Grows a b := h.to_grows (Grows.refl a) (fun _ hk => by cases hk)
theorem Chg.setCell {S : List Nat} {a w : World} (h : Chg S a w) {b : Nat} (hb : b ∈ S ∨ a.heap.size ≤ b) (o : Nat) (v : Value) : Chg S a (w.setCell ⟨b, o, none⟩ v) := by
  refine h.step (T := [b]) ⟨by simp [World.setCell], rfl, rfl, rfl, fun k hk hn => ?_⟩ (fun k hk => by simp at hk; subst hk; exact hb)
  show (w.heap.modify b _)[k]? = _
  rw [Array.getElem?_modify, if_neg (fun e => hn (by simp [e]))]
theorem Chg.setRow {S : List Nat} {a w : World} (h : Chg S a w) {b : Nat} (hb : b ∈ S ∨ a.heap.size ≤ b) (d : Array Value) : Chg S a (w.setRow b d) := by
  refine h.step (T := [b]) ⟨by simp [World.setRow], rfl, rfl, rfl, fun k hk hn => ?_⟩ (fun k hk => by simp at hk; subst hk; exact hb)
  exact setRow_other w b k d (fun e => hn (by simp [e]))
theorem Chg.setCells {S : List Nat} {a : World} {b : Nat} (hb : b ∈ S ∨ a.heap.size ≤ b) : ∀ (vs : List Value) (o : Nat) (w : World), Chg S a w → Chg S a (w.setCells b o vs)
  | [], _, _, h => h
  | v :: r, o, w, h => Chg.setCells hb r (o + 1) _ (h.setCell hb o v)
theorem Chg.grownBy {S : List Nat} {a x y : World} {row : Option Nat} (h : Chg S a x) (g : x.grownBy y row) (hr : ∀ b, row = some b → b ∈ S ∨ a.heap.size ≤ b) : Chg S a y := by
  cases row with
  | none => exact h.trans ⟨g.size, g.os, g.tape, g.output, fun k hk _ => g.block k hk (by simp)⟩
  | some b => exact h.step (T := [b]) ⟨g.size, g.os, g.tape, g.output, fun k hk hn => g.block k hk (fun e => hn (by injection e with e; simp [e]))⟩ (fun k hk => by simp at hk; subst hk; exact hr k rfl)
theorem Chg.cell {S : List Nat} {w w' : World} (h : Chg S w w') {k o : Nat} (hk : k < w.heap.size) (hn : k ∉ S) : w'.cell? ⟨k, o, none⟩ = w.cell? ⟨k, o, none⟩ := World.cell?_of_block (h.get hk hn)
theorem Chg.frozen {S : List Nat} {w w' : World} (h : Chg S w w') {k o : Nat} (hk : k < w.heap.size) (hn : k ∉ S) : w'.frozen? ⟨k, o, none⟩ = w.frozen? ⟨k, o, none⟩ := World.frozen?_of_block (h.get hk hn)
theorem Row.chg {S : List Nat} {w w' : World} {k : Nat} {c : Array Value} {t : TypeId} (hr : Row w k c t) (h : Chg S w w') (hn : k ∉ S) : Row w' k c t := by
  have := hr.lt
  unfold Row at *
  rw [h.get this hn]; exact hr
theorem Chg.grownBy' {S : List Nat} {w w' : World} (h : Chg S w w') {b : Nat} (hS : ∀ k ∈ S, k = b ∨ w.heap.size ≤ k) : w.grownBy w' (some b) :=
  ⟨h.2.1, h.2.2.1, h.2.2.2.1, h.1, fun k hk hn => h.get hk (fun hk' => by
    rcases hS k hk' with e | e
    · exact hn (by rw [e])
    · omega)⟩
theorem Row.setCell {w : World} {b i : Nat} {c : Array Value} {t : TypeId} (h : Row w b c t) (hi : i < c.size) (v : Value) : Row (w.setCell ⟨b, i, none⟩ v) b (c.set i v) t := by
  unfold Row at *
  show (w.heap.modify b _)[b]? = _
  rw [Array.getElem?_modify, if_pos rfl, h]
  simp [Array.setIfInBounds, hi]
theorem Row.setOther {w : World} {b : Nat} {c : Array Value} {t : TypeId} (h : Row w b c t) {p : Addr} (hp : p.block ≠ b) (v : Value) : Row (w.setCell p v) b c t := by
  unfold Row at *
  show (w.heap.modify p.block _)[b]? = _
  rw [Array.getElem?_modify, if_neg hp, h]
theorem Row.setRow {w : World} {b : Nat} {c : Array Value} {t : TypeId} (h : Row w b c t) (d : Array Value) : Row (w.setRow b d) b d t := setRow_heap w b c d t (0, 0) h
theorem Row.uniq {w : World} {b : Nat} {c d : Array Value} {t u : TypeId} (h : Row w b c t) (g : Row w b d u) : c = d := by
  unfold Row at *; rw [h] at g; injection g with g; injection g
/-! Bytes that are a function's. -/
/-- The block q begins with the n bytes of B. -/
def Bts (w : World) (q n : Nat) (B : Nat → Nat) : Prop :=
  (∃ cs t, Row w q cs t ∧ n ≤ cs.size ∧ ∀ i, i < n → cs[i]? = some (.int .u8 (B i : Nat))) ∧ ∀ i, i < n → B i < 256
theorem Bts.cell {w : World} {q n : Nat} {B : Nat → Nat} (h : Bts w q n B) {i : Nat} (hi : i < n) : w.cell? ⟨q, i, none⟩ = some (.int .u8 (B i : Nat)) := by
  obtain ⟨⟨cs, t, hr, hl, hc⟩, _⟩ := h
  rw [hr.cell]; exact hc i hi
theorem Bts.byte {w : World} {q n : Nat} {B : Nat → Nat} (h : Bts w q n B) {i : Nat} (hi : i < n) : B i < 256 := h.2 i hi
theorem Bts.frozen {w : World} {q n : Nat} {B : Nat → Nat} (h : Bts w q n B) (i : Nat) : w.frozen? ⟨q, i, none⟩ = false := by
  obtain ⟨⟨cs, t, hr, hl, hc⟩, _⟩ := h
  exact hr.frozen i
theorem Bts.blt {w : World} {q n : Nat} {B : Nat → Nat} (h : Bts w q n B) : q < w.heap.size := by
  obtain ⟨⟨cs, t, hr, hl, hc⟩, _⟩ := h
  exact hr.lt
theorem Bts.chg {S : List Nat} {w w' : World} {q n : Nat} {B : Nat → Nat} (h : Bts w q n B) (hc : Chg S w w') (hn : q ∉ S) : Bts w' q n B := by
  obtain ⟨⟨cs, t, hr, hl, hx⟩, hb⟩ := h
  exact ⟨⟨cs, t, hr.chg hc hn, hl, hx⟩, hb⟩
theorem Bts.grows {w w' : World} {q n : Nat} {B : Nat → Nat} (h : Bts w q n B) (hg : Grows w w') : Bts w' q n B := h.chg (S := []) (Chg.of_grows hg) (by simp)
theorem Bts.congr {w : World} {q n : Nat} {B C : Nat → Nat} (h : Bts w q n B) (he : ∀ i, i < n → B i = C i) : Bts w q n C := by
  obtain ⟨⟨cs, t, hr, hl, hx⟩, hb⟩ := h
  exact ⟨⟨cs, t, hr, hl, fun i hi => by rw [← he i hi]; exact hx i hi⟩, fun i hi => by rw [← he i hi]; exact hb i hi⟩
theorem Bts.mono {w : World} {q n m : Nat} {B : Nat → Nat} (h : Bts w q n B) (hm : m ≤ n) : Bts w q m B := by
  obtain ⟨⟨cs, t, hr, hl, hx⟩, hb⟩ := h
  exact ⟨⟨cs, t, hr, by omega, fun i hi => hx i (by omega)⟩, fun i hi => hb i (by omega)⟩
/-- Bytes laid over from a place on. -/
def putB (B : Nat → Nat) (at_ : Nat) (bs : List Nat) : Nat → Nat := fun i => if at_ ≤ i ∧ i < at_ + bs.length then bs.getD (i - at_) 0 else B i
def put1 (B : Nat → Nat) (i x : Nat) : Nat → Nat := fun j => if j = i then x else B j
/-- k bytes from a place on. -/
def segB (B : Nat → Nat) (at_ k : Nat) : List Nat := (List.range k).map fun i => B (at_ + i)
theorem segB_length (B : Nat → Nat) (a k : Nat) : (segB B a k).length = k := by simp [segB]
theorem segB_getD (B : Nat → Nat) (a k : Nat) {i : Nat} (hi : i < k) : (segB B a k).getD i 0 = B (a + i) := by simp [segB, List.getD, hi]
theorem segB_congr {B C : Nat → Nat} {a k : Nat} (h : ∀ i, i < k → B (a + i) = C (a + i)) : segB B a k = segB C a k := by
  unfold segB
  exact List.map_congr_left fun i hi => h i (by simpa using hi)
theorem segB_lt {B : Nat → Nat} {a k n : Nat} (h : ∀ i, i < n → B i < 256) (hk : a + k ≤ n) : ∀ x ∈ segB B a k, x < 256 := by
  intro x hx
  simp [segB] at hx
  obtain ⟨i, hi, rfl⟩ := hx
  exact h _ (by omega)
theorem putB_nil (B : Nat → Nat) (a : Nat) : putB B a [] = B := by funext i; unfold putB; rw [if_neg (by simp <;> omega)]
theorem putB_in (B : Nat → Nat) (a : Nat) (bs : List Nat) {i : Nat} (hi : i < bs.length) : putB B a bs (a + i) = bs.getD i 0 := by
  unfold putB; rw [if_pos (by omega)]; congr 1; omega
theorem putB_out (B : Nat → Nat) (a : Nat) (bs : List Nat) {i : Nat} (hi : i < a ∨ a + bs.length ≤ i) : putB B a bs i = B i := by
  unfold putB; rw [if_neg (by omega)]
theorem putB_snoc (B : Nat → Nat) (a : Nat) (bs : List Nat) (x : Nat) : putB B a (bs ++ [x]) = put1 (putB B a bs) (a + bs.length) x := by
  funext i
  unfold put1 putB
  simp only [List.length_append, List.length_singleton]
  by_cases h : i = a + bs.length
  · subst h
    rw [if_pos (by omega), if_pos rfl]
    simp
  · rw [if_neg h]
    by_cases h2 : a ≤ i ∧ i < a + bs.length
    · rw [if_pos (by omega), if_pos h2]
      simp only [List.getD]
      rw [List.getElem?_append_left (show i - a < bs.length by omega)]
    · rw [if_neg (by omega), if_neg h2]
theorem putB_lt {B : Nat → Nat} {a n : Nat} {bs : List Nat} (h : ∀ i, i < n → B i < 256) (hb : ∀ x ∈ bs, x < 256) : ∀ i, i < n → putB B a bs i < 256 := by
  intro i hi
  unfold putB
  split
  · rename_i hh
    have hl : i - a < bs.length := by omega
    simp [List.getD, hl]
    exact hb _ (List.getElem_mem hl)
  · exact h i hi
theorem segB_putB (B : Nat → Nat) (a : Nat) (bs : List Nat) : segB (putB B a bs) a bs.length = bs := by
  apply List.ext_getElem
  · simp [segB]
  · intro i h1 h2
    simp [segB]
    rw [putB_in B a bs h2]
    simp [List.getD, h2]
theorem Bts.set1 {w : World} {q n : Nat} {B : Nat → Nat} (h : Bts w q n B) {i : Nat} (hi : i < n) {x : Nat} (hx : x < 256) : Bts (w.setCell ⟨q, i, none⟩ (.int .u8 (x : Nat))) q n (put1 B i x) := by
  obtain ⟨⟨cs, t, hr, hl, hc⟩, hb⟩ := h
  refine ⟨⟨_, t, hr.setCell (by omega) _, by simpa using hl, fun j hj => ?_⟩, fun j hj => ?_⟩
  · unfold put1
    rw [Array.getElem?_set]
    by_cases e : i = j
    · subst e; simp
    · rw [if_neg e, if_neg (Ne.symm e)]; exact hc j hj
  · unfold put1; split
    · exact hx
    · exact hb j hj
theorem Bts.splice {w : World} {q n a : Nat} {B : Nat → Nat} {bs : List Nat} (h : Bts w q n B) (ha : a + bs.length ≤ n) (hb : ∀ x ∈ bs, x < 256) {cur : Array Value} {t : TypeId} (hr : Row w q cur t) :
    Bts (w.setRow q (cur.toList.take a ++ ((bs.map fun x => Value.int .u8 (x : Nat)) ++ cur.toList.drop (a + bs.length))).toArray) q n (putB B a bs) := by
  obtain ⟨⟨cs, t', hr', hl, hc⟩, hb'⟩ := h
  obtain rfl := hr.uniq hr'
  refine ⟨⟨_, t, hr.setRow _, by simp; omega, fun j hj => ?_⟩, putB_lt hb' hb⟩
  have hla : min a cur.size = a := by omega
  simp only [List.getElem?_toArray]
  by_cases h1 : j < a
  · rw [List.getElem?_append_left (by simp; omega), putB_out B a bs (Or.inl h1)]
    have := hc j hj
    simpa [List.getElem?_take, h1] using this
  · rw [List.getElem?_append_right (by simp; omega)]
    simp only [List.length_take, Array.length_toList, hla]
    by_cases h2 : j - a < bs.length
    · rw [List.getElem?_append_left (by simpa using h2), List.getElem?_map, List.getElem?_eq_getElem h2]
      have e : j = a + (j - a) := by omega
      have := putB_in B a bs h2
      rw [← e] at this
      rw [this]
      simp [List.getD, h2]
    · rw [List.getElem?_append_right (by simpa using h2), putB_out B a bs (Or.inr (by omega))]
      have := hc j hj
      simp only [List.length_map, List.getElem?_drop, Array.getElem?_toList]
      rw [show a + bs.length + (j - a - bs.length) = j by omega]; exact this
theorem Bts.of_row {w : World} {q n : Nat} {B : Nat → Nat} {cs : Array Value} {t : TypeId} (hr : Row w q cs t) (hl : n ≤ cs.size) (hc : ∀ i, i < n → cs[i]? = some (.int .u8 (B i : Nat))) (hb : ∀ i, i < n → B i < 256) : Bts w q n B := ⟨⟨cs, t, hr, hl, hc⟩, hb⟩
theorem madeCells_at (z : Value) (n : Nat) {i : Nat} (hi : i < n) : (madeCells #[z] n)[i]? = some z := by
  simp [madeCells, hi, Nat.mod_one]
/-- New bytes are 0. -/
theorem Bts.made (w : World) (n : Nat) (t : TypeId) : Bts (w.alloc (.cells (madeCells #[.int .u8 0] n) t)) w.heap.size n (fun _ => 0) :=
  Bts.of_row (Row.new w _ t) (by rw [size_madeCells]; exact Nat.le_refl _) (fun i hi => madeCells_at _ n hi) (fun _ _ => by decide)
theorem setCells_other {b k : Nat} (hn : k ≠ b) : ∀ (vs : List Value) (o : Nat) (w : World), (w.setCells b o vs).heap[k]? = w.heap[k]?
  | [], _, _ => rfl
  | v :: r, o, w => by
    rw [World.setCells, setCells_other hn r]
    show (w.heap.modify b _)[k]? = _
    rw [Array.getElem?_modify, if_neg (Ne.symm hn)]
theorem Bts.setCells {q n : Nat} : ∀ (bs : List Nat) (o : Nat) (w : World) (B : Nat → Nat), Bts w q n B → o + bs.length ≤ n → (∀ x ∈ bs, x < 256) → Bts (w.setCells q o (bs.map fun x => Value.int .u8 (x : Nat))) q n (putB B o bs)
  | [], o, w, B, h, _, _ => by rw [putB_nil]; exact h
  | x :: r, o, w, B, h, hl, hb => by
    simp only [List.length_cons] at hl
    have h1 := Bts.setCells r (o + 1) _ _ (h.set1 (i := o) (by omega) (hb x (by simp))) (by omega) (fun y hy => hb y (by simp [hy]))
    refine h1.congr (fun i hi => ?_)
    unfold putB put1
    simp only [List.length_cons]
    by_cases h0 : i = o
    · subst h0
      rw [if_neg (by omega), if_pos rfl, if_pos (by omega)]; simp
    · by_cases h2 : o + 1 ≤ i ∧ i < o + 1 + r.length
      · rw [if_pos h2, if_pos (by omega)]
        rw [show i - o = (i - (o + 1)) + 1 by omega]; simp
      · rw [if_neg h2, if_neg h0, if_neg (by omega)]
end Go
