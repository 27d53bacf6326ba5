/- A struct's or an array's whole block read and written at once. -/
import Derived.Test.YtilefidnjjbboaaProg
import Derived.Test.YtilefidnjjbboaaBase
import Derived.Laws.Rows
import Derived.Laws.CopyOwn
namespace Go.Proofs.Ytilefidnjjbboaa
open Go Go.RowKit
set_option linter.unusedSimpArgs false
set_option linter.unusedVariables false
theorem row_setCell {w : World} {b i : Nat} {c : Array Value} {t : TypeId} (h : Row w b c t) (hi : i < c.size) (v : Value) : Row (w.setCell ⟨b, i, none⟩ v) b (c.set i v) t := by
  unfold Row at *
  show (w.heap.modify b _)[b]? = _
  rw [Array.getElem?_modify, if_pos rfl, h]
  simp [Array.setIfInBounds, hi]
theorem row_setOther {w : World} {b : Nat} {c : Array Value} {t : TypeId} (h : Row w b c t) {p : Addr} (hp : p.block ≠ b) (v : Value) : Row (w.setCell p v) b c t := by
  unfold Row at *
  show (w.heap.modify p.block _)[b]? = _
  rw [Array.getElem?_modify, if_neg hp, h]
theorem row_setRow {w : World} {b : Nat} {c : Array Value} {t : TypeId} (h : Row w b c t) (d : Array Value) : Row (w.setRow b d) b d t := setRow_heap w b c d t (0, 0) h
theorem row_setRowOther {w : World} {b g : Nat} {c : Array Value} {t : TypeId} (h : Row w b c t) (hn : g ≠ b) (d : Array Value) : Row (w.setRow g d) b c t := by
  unfold Row at *
  show (w.heap.modify g _)[b]? = _
  rw [Array.getElem?_modify, if_neg hn, h]
theorem grows_setRow {a w : World} (h : Grows a w) {b : Nat} (hb : a.heap.size ≤ b) (d : Array Value) : Grows a (w.setRow b d) := Grows.of_below (below_setRow h.below hb d)
end Go.Proofs.Ytilefidnjjbboaa
