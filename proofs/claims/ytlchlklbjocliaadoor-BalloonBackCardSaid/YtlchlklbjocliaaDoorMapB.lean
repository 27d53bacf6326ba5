/- A map from whole numbers to bools, told by a function. -/
import Derived.Test.YtlchlklbjocliaaDoorMapE
set_option linter.unusedVariables false
set_option maxRecDepth 100000
set_option linter.unusedSimpArgs false
namespace Go
open Go.Maps (Keyed int_keyed keyOf_int_mk)
def bmUpd (f : Int → Option Bool) (K : Int) (V : Bool) : Int → Option Bool := fun x => if x = K then some V else f x
def bmDel (f : Int → Option Bool) (K : Int) : Int → Option Bool := fun x => if x = K then none else f x
section
variable {P : Program} {k e t : TypeId} {w : World} {b s : Nat} {f : Int → Option Bool}
/-- Block b is a map of s entries that answers as f does. -/
def BMap (P : Program) (k e : TypeId) (w : World) (b s : Nat) (f : Int → Option Bool) : Prop :=
  ∃ D : DataW Unit, w.ownsMap P k (plainElem P e) b s D ∧ Maps.size D = s ∧ ∀ x, wf64 x → (∀ z, D.atKey (.int .i64 x) z = match f x with | some v => .lit (.bool v) | none => z) ∧ Maps.has D (.int .i64 x) = (f x).isSome
theorem BMap.lt (h : BMap P k e w b s f) : b < w.heap.size := by
  obtain ⟨D, h, _⟩ := h; exact h.lt
theorem BMap.made (w : World) (P : Program) (k e : TypeId) : BMap P k e (w.alloc (.map #[] 0)) w.heap.size 0 (fun _ => none) :=
  ⟨.map [], World.ownsMap_made w P k _, rfl, fun x _ => ⟨fun z => rfl, rfl⟩⟩
theorem BMap.kept {w' : World} {row : Option Nat} (h : BMap P k e w b s f) (hg : w.grownBy w' row) (hne : some b ≠ row) : BMap P k e w' b s f := by
  obtain ⟨D, h, r⟩ := h; exact ⟨D, h.kept hg hne, r⟩
theorem BMap.grows {w' : World} (h : BMap P k e w b s f) (hg : Grows w w') : BMap P k e w' b s f := h.kept (grown_none hg) (by simp)
theorem BMap.of_block {w' : World} (h : BMap P k e w b s f) (hb : w'.heap[b]? = w.heap[b]?) : BMap P k e w' b s f := by
  obtain ⟨D, ⟨es, clock, hb0, F, hs, hD⟩, r⟩ := h
  exact ⟨D, ⟨es, clock, hb.trans hb0, F, hs, hD⟩, r⟩
theorem BMap.put {D : DataW Unit} (hk : P.underlying k = some (.int .i64)) (h : w.ownsMap P k (plainElem P e) b s D) (hs : Maps.size D = s) (hf : ∀ x, wf64 x → (∀ z, D.atKey (.int .i64 x) z = match f x with | some v => .lit (.bool v) | none => z) ∧ Maps.has D (.int .i64 x) = (f x).isSome)
    {K : Int} {V : Bool} (wK : wf64 K) : Maps.size (D.put (.int .i64 K) (.lit (.bool V))) = (if (f K).isSome then s else s + 1) ∧ ∀ x, wf64 x → (∀ z, (D.put (.int .i64 K) (.lit (.bool V))).atKey (.int .i64 x) z = match bmUpd f K V x with | some v => .lit (.bool v) | none => z) ∧ Maps.has (D.put (.int .i64 K) (.lit (.bool V))) (.int .i64 x) = (bmUpd f K V x).isSome := by
  have ht := h.tidy (int_keyed hk)
  refine ⟨?_, fun x wx => ?_⟩
  · rw [Maps.size_put ht, (hf K wK).2, hs]
  · unfold bmUpd
    by_cases hx : x = K
    · subst hx
      simp only [if_pos]
      exact ⟨fun z => Maps.atKey_put_same h.isMap (isKey _) _ _, Maps.has_put_same h.isMap (isKey _) _⟩
    · simp only [if_neg hx]
      obtain ⟨h1, h2⟩ := hf x wx
      exact ⟨fun z => by rw [Maps.atKey_put_other (lit_ne hx)]; exact h1 z, by rw [Maps.has_put_other (lit_ne hx)]; exact h2⟩
theorem BMap.update (h : BMap P k e w b s f) (hk : P.underlying k = some (.int .i64)) (he : P.underlying e = some .bool) (ht : P.underlying t = some (.map k e)) (hn : s < maxLen) {K : Int} (V : Bool) (wK : wf64 K) :
    ∃ w', (Instr.mapUpdate t (.map (some b)) (.int .i64 K) (.bool V)).run P w = .ok () w' ∧ BMap P k e w' b (if (f K).isSome then s else s + 1) (bmUpd f K V) ∧ w.grownBy w' (some b) := by
  obtain ⟨D, h, hs, hf⟩ := h
  obtain ⟨w', hrun, h1, h2⟩ := h.update (int_keyed hk) ht hn (keyOf_int_mk hk wK) (plainElem_bool he V)
  obtain ⟨p1, p2⟩ := BMap.put hk h hs hf (V := V) wK
  have h3 := ownsMap_tight h1
  rw [p1] at h3
  exact ⟨w', hrun, ⟨_, h3, p1, p2⟩, h2⟩
theorem plainElem_bool_inv {e : TypeId} (he : P.underlying e = some .bool) {v : Value} {z : DataW Unit × List MemPlace} (h : plainElem P e v = some z) : ∃ x, v = .bool x ∧ z = (.lit (.bool x), []) := by
  unfold plainElem at h
  cases v <;> simp_all [DataW.trod]
theorem BMap.look (h : BMap P k e w b s f) (hk : P.underlying k = some (.int .i64)) (he : P.underlying e = some .bool) (ht : P.underlying t = some (.map k e)) (hz : (zeroValue e).run P w = .ok (.bool false) w) {K : Int} (wK : wf64 K) :
    (Instr.lookup t (.map (some b)) (.int .i64 K) false).run P w = .ok (.bool ((f K).getD false)) w := by
  obtain ⟨D, h, hs, hf⟩ := h
  obtain ⟨v, ps, hrun, hv⟩ := h.lookup (int_keyed hk) ht hz (plainElem_bool he false) (keyOf_int_mk hk wK)
  obtain ⟨x, rfl, hx⟩ := plainElem_bool_inv he hv
  simp only [Prod.mk.injEq] at hx
  have hat := hx.1
  rw [(hf K wK).1] at hat
  have : x = (f K).getD false := by
    cases hfk : f K <;> simp [hfk] at hat <;> simp [hat]
  rw [← this]
  exact hrun
theorem BMap.len (h : BMap P k e w b s f) (ht : P.underlying t = some (.map k e)) (ty : TypeId) : (Builtin.len_ #[t] ty #[.map (some b)]).run P w = .ok (.int .i64 s) w := by
  obtain ⟨D, h, hs, _⟩ := h
  rw [h.len ht ty, hs]
theorem BMap.del (h : BMap P k e w b s f) (hk : P.underlying k = some (.int .i64)) (ht : P.underlying t = some (.map k e)) {K : Int} (wK : wf64 K) (ty : TypeId) :
    ∃ w', (Builtin.delete_ #[t, k] ty #[.map (some b), .int .i64 K]).run P w = .ok (.tuple #[]) w' ∧ BMap P k e w' b (if (f K).isSome then s - 1 else s) (bmDel f K) ∧ w.grownBy w' (some b) := by
  obtain ⟨D, h, hs, hf⟩ := h
  obtain ⟨w', hrun, h1, h2⟩ := h.drop (int_keyed hk) ht (keyOf_int_mk hk wK) ty
  have htd := h.tidy (int_keyed hk)
  have hsz := Maps.size_del (k := .int .i64 K) htd
  have h3 := ownsMap_tight h1
  have e1 : Maps.size (D.del (.int .i64 K)) = (if (f K).isSome then s - 1 else s) := by
    rw [(hf K wK).2, hs] at hsz
    by_cases hq : (f K).isSome = true
    · rw [if_pos hq] at hsz ⊢; omega
    · rw [if_neg hq] at hsz ⊢; omega
  rw [e1] at h3
  refine ⟨w', hrun, ⟨_, h3, e1, fun x wx => ?_⟩, h2.grown⟩
  unfold bmDel
  by_cases hx : x = K
  · subst hx
    simp only [if_pos]
    exact ⟨fun z => Maps.atKey_del_same z, Maps.has_del_same⟩
  · simp only [if_neg hx]
    obtain ⟨g1, g2⟩ := hf x wx
    exact ⟨fun z => by rw [Maps.atKey_del_other (lit_ne hx)]; exact g1 z, by rw [Maps.has_del_other (lit_ne hx)]; exact g2⟩
end
end Go
