/- A part of a row: read as a range, written as a whole. -/
import Derived.Test.YtnkmelhggnelmaaDoorChg
import Derived.Deep.MidRow
namespace Go
open Go.RowKit
set_option linter.unusedSimpArgs false
set_option linter.unusedVariables false
set_option maxRecDepth 100000
theorem Row.range {w : World} {b : Nat} {c : Array Value} {t : TypeId} (h : Row w b c t) {o : Nat} {cs : List Value} (hc : ∀ (j : Nat) (v : Value), cs[j]? = some v → c[o + j]? = some v) : w.rangeAt b o cs := fun j v hv => by
  rw [h.cell]; exact hc j v hv
theorem Row.thereAt {w : World} {b : Nat} {c : Array Value} {t : TypeId} (h : Row w b c t) {o n : Nat} (hn : o + n ≤ c.size) : w.there b o n := fun j hj =>
  ⟨by rw [h.cell, Array.getElem?_eq_getElem (by omega)]; rfl, h.frozen _⟩
theorem Row.put {w : World} {b : Nat} {c : Array Value} {t : TypeId} (h : Row w b c t) (i : Nat) (v : Value) : Row (w.setCell ⟨b, i, none⟩ v) b (c.setIfInBounds i v) t := by
  by_cases hi : i < c.size
  · have := h.setCell (i := i) hi v
    rw [Array.setIfInBounds, dif_pos hi]
    exact this
  · rw [Array.setIfInBounds, dif_neg hi]
    have hr := h
    unfold Row at *
    show (w.heap.modify b _)[b]? = _
    rw [Array.getElem?_modify, if_pos rfl, hr]
    simp [Array.setIfInBounds, hi]
/-- vs written from o on. -/
def putA (c : Array Value) (o : Nat) : List Value → Array Value
  | [] => c
  | v :: r => putA (c.setIfInBounds o v) (o + 1) r
theorem Row.puts {b : Nat} {t : TypeId} : ∀ (vs : List Value) (o : Nat) (w : World) (c : Array Value), Row w b c t → Row (w.setCells b o vs) b (putA c o vs) t
  | [], _, _, _, h => h
  | v :: r, o, w, c, h => Row.puts r (o + 1) _ _ (h.put o v)
theorem putA_size : ∀ (vs : List Value) (o : Nat) (c : Array Value), (putA c o vs).size = c.size
  | [], _, _ => rfl
  | v :: r, o, c => by rw [putA, putA_size r]; simp
theorem putA_get : ∀ (vs : List Value) (o i : Nat) (c : Array Value), (putA c o vs)[i]? = if o ≤ i ∧ i < o + vs.length ∧ i < c.size then vs[i - o]? else c[i]?
  | [], o, i, c => by
    rw [if_neg (by simp; omega)]; rfl
  | v :: r, o, i, c => by
    rw [putA, putA_get r (o + 1) i]
    simp only [Array.size_setIfInBounds, List.length_cons]
    by_cases h1 : o + 1 ≤ i ∧ i < o + 1 + r.length ∧ i < c.size
    · rw [if_pos h1, if_pos (by omega)]
      rw [show i - o = (i - (o + 1)) + 1 by omega]; rfl
    · rw [if_neg h1, Array.getElem?_setIfInBounds]
      by_cases e : o = i
      · subst e
        by_cases hs : o < c.size
        · rw [if_pos rfl, if_pos hs, if_pos (by omega)]; simp
        · rw [if_pos rfl, if_neg hs, if_neg (by omega), Array.getElem?_eq_none (by omega)]
      · rw [if_neg e, if_neg (by omega)]
theorem putA_mid (pre mid post mid' : List Value) (h : mid'.length = mid.length) : putA (pre ++ mid ++ post).toArray pre.length mid' = (pre ++ mid' ++ post).toArray := by
  apply Array.ext_getElem?
  intro i
  rw [putA_get]
  simp only [List.getElem?_toArray, List.size_toArray, List.length_append]
  by_cases h1 : pre.length ≤ i ∧ i < pre.length + mid'.length ∧ i < pre.length + mid.length + post.length
  · rw [if_pos h1, List.append_assoc, List.getElem?_append_right (by omega), List.getElem?_append_left (by omega)]
  · rw [if_neg h1]
    by_cases h2 : i < pre.length
    · rw [List.append_assoc, List.append_assoc, List.getElem?_append_left h2, List.getElem?_append_left h2]
    · by_cases h3 : i < pre.length + mid.length + post.length
      · rw [List.getElem?_append_right (by simp; omega), List.getElem?_append_right (by simp; omega)]
        simp only [List.length_append, h]
      · rw [List.getElem?_eq_none (by simp; omega), List.getElem?_eq_none (by simp; omega)]
theorem mid_get (pre mid post : List Value) (j : Nat) (v : Value) (h : mid[j]? = some v) : (pre ++ mid ++ post).toArray[pre.length + j]? = some v := by
  have hj : j < mid.length := (List.getElem?_eq_some_iff.1 h).1
  rw [List.getElem?_toArray, List.append_assoc, List.getElem?_append_right (by omega), List.getElem?_append_left (by omega), show pre.length + j - pre.length = j by omega, h]
end Go
