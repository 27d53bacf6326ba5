/- A map from whole numbers to whole numbers, told by a function. -/
import Derived.Test.YtlchlklbjocliaaDoorBase
import Derived.Maps.OwnSet
import Derived.Maps.OwnOps
set_option linter.unusedVariables false
set_option maxRecDepth 100000
set_option linter.unusedSimpArgs false
namespace Go
open Go.Maps (Keyed int_keyed keyOf_int_mk)
def imUpd (f : Int → Option Int) (K V : Int) : Int → Option Int := fun x => if x = K then some V else f x
def imDel (f : Int → Option Int) (K : Int) : Int → Option Int := fun x => if x = K then none else f x
abbrev wf64 (x : Int) : Prop := (Lit.int .i64 x).wf = true
section
variable {P : Program} {k e t : TypeId} {w : World} {b s : Nat} {f : Int → Option Int}
/-- Block b is a map of s entries that answers as f does. -/
def IMap (P : Program) (k e : TypeId) (w : World) (b s : Nat) (f : Int → Option Int) : Prop :=
  ∃ D : DataW Unit, w.ownsMap P k (plainElem P e) b s D ∧ Maps.size D = s ∧ ∀ x, wf64 x → (∀ z, D.atKey (.int .i64 x) z = match f x with | some v => .lit (.int .i64 v) | none => z) ∧ Maps.has D (.int .i64 x) = (f x).isSome
theorem ownsMap_tight {D : DataW Unit} {n : Nat} (h : w.ownsMap P k (plainElem P e) b n D) : w.ownsMap P k (plainElem P e) b (Maps.size D) D := by
  obtain ⟨es, clock, hb, F, hs, rfl⟩ := h
  refine ⟨es, clock, hb, F, ?_, rfl⟩
  rw [Maps.size_eq, length_read]
  exact Nat.le_refl _
theorem IMap.lt (h : IMap P k e w b s f) : b < w.heap.size := by
  obtain ⟨D, h, _⟩ := h; exact h.lt
theorem IMap.made (w : World) (P : Program) (k e : TypeId) : IMap P k e (w.alloc (.map #[] 0)) w.heap.size 0 (fun _ => none) :=
  ⟨.map [], World.ownsMap_made w P k _, rfl, fun x _ => ⟨fun z => rfl, rfl⟩⟩
theorem IMap.kept {w' : World} {row : Option Nat} (h : IMap P k e w b s f) (hg : w.grownBy w' row) (hne : some b ≠ row) : IMap P k e w' b s f := by
  obtain ⟨D, h, r⟩ := h; exact ⟨D, h.kept hg hne, r⟩
theorem grown_none {w w' : World} (h : Grows w w') : w.grownBy w' none := ⟨h.below.os, h.below.tape, h.below.output, h.size, fun i hi _ => h.get hi⟩
theorem IMap.grows {w' : World} (h : IMap P k e w b s f) (hg : Grows w w') : IMap P k e w' b s f := h.kept (grown_none hg) (by simp)
theorem isKey (x : Int) : WideAt.IsKeyLit (.int .i64 x) := trivial
theorem lit_ne {x y : Int} (h : x ≠ y) : (Lit.int .i64 x) ≠ (Lit.int .i64 y) := fun e => h (by injection e)
theorem IMap.put {D : DataW Unit} (hk : P.underlying k = some (.int .i64)) (h : w.ownsMap P k (plainElem P e) b s D) (hs : Maps.size D = s) (hf : ∀ x, wf64 x → (∀ z, D.atKey (.int .i64 x) z = match f x with | some v => .lit (.int .i64 v) | none => z) ∧ Maps.has D (.int .i64 x) = (f x).isSome)
    {K V : Int} (wK : wf64 K) : Maps.size (D.put (.int .i64 K) (.lit (.int .i64 V))) = (if (f K).isSome then s else s + 1) ∧ ∀ x, wf64 x → (∀ z, (D.put (.int .i64 K) (.lit (.int .i64 V))).atKey (.int .i64 x) z = match imUpd f K V x with | some v => .lit (.int .i64 v) | none => z) ∧ Maps.has (D.put (.int .i64 K) (.lit (.int .i64 V))) (.int .i64 x) = (imUpd f K V x).isSome := by
  have ht := h.tidy (int_keyed hk)
  refine ⟨?_, fun x wx => ?_⟩
  · rw [Maps.size_put ht, (hf K wK).2, hs]
  · unfold imUpd
    by_cases hx : x = K
    · subst hx
      simp only [if_pos]
      exact ⟨fun z => Maps.atKey_put_same h.isMap (isKey _) _ _, Maps.has_put_same h.isMap (isKey _) _⟩
    · simp only [if_neg hx]
      obtain ⟨h1, h2⟩ := hf x wx
      exact ⟨fun z => by rw [Maps.atKey_put_other (lit_ne hx)]; exact h1 z, by rw [Maps.has_put_other (lit_ne hx)]; exact h2⟩
theorem IMap.update (h : IMap P k e w b s f) (hk : P.underlying k = some (.int .i64)) (he : P.underlying e = some (.int .i64)) (ht : P.underlying t = some (.map k e)) (hn : s < maxLen) {K V : Int} (wK : wf64 K) (wV : wf64 V) :
    ∃ w', (Instr.mapUpdate t (.map (some b)) (.int .i64 K) (.int .i64 V)).run P w = .ok () w' ∧ IMap P k e w' b (if (f K).isSome then s else s + 1) (imUpd f K V) ∧ w.grownBy w' (some b) := by
  obtain ⟨D, h, hs, hf⟩ := h
  obtain ⟨w', hrun, h1, h2⟩ := h.update (int_keyed hk) ht hn (keyOf_int_mk hk wK) (plainElem_int he wV)
  obtain ⟨p1, p2⟩ := IMap.put hk h hs hf (V := V) wK
  have h3 := ownsMap_tight h1
  rw [p1] at h3
  exact ⟨w', hrun, ⟨_, h3, p1, p2⟩, h2⟩
theorem IMap.look (h : IMap P k e w b s f) (hk : P.underlying k = some (.int .i64)) (he : P.underlying e = some (.int .i64)) (ht : P.underlying t = some (.map k e)) (hz : (zeroValue e).run P w = .ok (.int .i64 0) w) {K : Int} (wK : wf64 K) :
    (Instr.lookup t (.map (some b)) (.int .i64 K) false).run P w = .ok (.int .i64 ((f K).getD 0)) w ∧ wf64 ((f K).getD 0) := by
  obtain ⟨D, h, hs, hf⟩ := h
  obtain ⟨c, hrun, hat, hw⟩ := h.lookup_int (int_keyed hk) ht he hz (keyOf_int_mk hk wK)
  rw [(hf K wK).1] at hat
  have : c = (f K).getD 0 := by
    cases hfk : f K <;> simp [hfk] at hat <;> simp [hat]
  rw [← this]
  exact ⟨hrun, hw⟩
theorem IMap.look_ok (h : IMap P k e w b s f) (hk : P.underlying k = some (.int .i64)) (he : P.underlying e = some (.int .i64)) (ht : P.underlying t = some (.map k e)) (hz : (zeroValue e).run P w = .ok (.int .i64 0) w) {K : Int} (wK : wf64 K) :
    (Instr.lookup t (.map (some b)) (.int .i64 K) true).run P w = .ok (.tuple #[.int .i64 ((f K).getD 0), .bool (f K).isSome]) w ∧ wf64 ((f K).getD 0) := by
  obtain ⟨D, h, hs, hf⟩ := h
  obtain ⟨v, ps, hrun, hv⟩ := h.look_ok (int_keyed hk) ht hz (plainElem_int he (by decide)) (keyOf_int_mk hk wK)
  obtain ⟨c, rfl, hc, hwc⟩ := plainElem_int_inv he hv
  have hat := congrArg Prod.fst hc
  simp only at hat
  rw [(hf K wK).1] at hat
  have : c = (f K).getD 0 := by
    cases hfk : f K <;> simp [hfk] at hat <;> simp [hat]
  rw [← this]
  rw [(hf K wK).2] at hrun
  exact ⟨hrun, hwc⟩
end
section
variable {P : Program} (w : World) {ops : Array Oper} {rest : List Oper} {o : Oper} {a : Act} {Q : Exit → Act → World → Prop}
theorem wpList_imap_update (hg : o.guard = none) (m x v : Operand) (t : TypeId) (hop : o.op = Op.mapUpdate t m x v ∨ o.op = Op.insert t m x v) (k e : TypeId) (hk : P.underlying k = some (.int .i64)) (he : P.underlying e = some (.int .i64)) (ht : P.underlying t = some (.map k e))
    (b s : Nat) (f : Int → Option Int) (hm : a.eval m = .map (some b)) (h : IMap P k e w b s f) (hn : s < maxLen) (K V : Int) (hx : a.eval x = .int .i64 K) (hv : a.eval v = .int .i64 V) (wK : wf64 K) (wV : wf64 V)
    (hK : ∀ w', IMap P k e w' b (if (f K).isSome then s else s + 1) (imUpd f K V) → w.grownBy w' (some b) → wpList P ops Q rest (a.put o.dst undef) w') : wpList P ops Q (o :: rest) a w := by
  refine wpList_plain hg fun K' hK' => ?_
  obtain ⟨w', hrun, r1, r2⟩ := h.update hk he ht hn wK wV
  unfold Oper.wp
  rcases hop with hop | hop
  all_goals
    simp [execOp, hop, hm, hx, hv, hrun, Result.andThen]
    exact hK' _ _ (hK w' r1 r2)
theorem wpList_imap_look (hg : o.guard = none) (m x : Operand) (t : TypeId) (hop : o.op = Op.lookup t m x false) (k e : TypeId) (hk : P.underlying k = some (.int .i64)) (he : P.underlying e = some (.int .i64)) (ht : P.underlying t = some (.map k e))
    (hz : (zeroValue e).run P w = .ok (.int .i64 0) w) (b s : Nat) (f : Int → Option Int) (hm : a.eval m = .map (some b)) (h : IMap P k e w b s f) (K : Int) (hx : a.eval x = .int .i64 K) (wK : wf64 K)
    (hK : wf64 ((f K).getD 0) → wpList P ops Q rest (a.put o.dst (.int .i64 ((f K).getD 0))) w) : wpList P ops Q (o :: rest) a w := by
  refine wpList_plain hg fun K' hK' => ?_
  obtain ⟨hrun, hw⟩ := h.look hk he ht hz wK
  unfold Oper.wp
  simp [execOp, hop, hm, hx, hrun, Result.andThen]
  exact hK' _ _ (hK hw)
theorem wpList_imap_look_ok (hg : o.guard = none) (m x : Operand) (t : TypeId) (hop : o.op = Op.lookup t m x true) (k e : TypeId) (hk : P.underlying k = some (.int .i64)) (he : P.underlying e = some (.int .i64)) (ht : P.underlying t = some (.map k e))
    (hz : (zeroValue e).run P w = .ok (.int .i64 0) w) (b s : Nat) (f : Int → Option Int) (hm : a.eval m = .map (some b)) (h : IMap P k e w b s f) (K : Int) (hx : a.eval x = .int .i64 K) (wK : wf64 K)
    (hK : wf64 ((f K).getD 0) → wpList P ops Q rest (a.put o.dst (.tuple #[.int .i64 ((f K).getD 0), .bool (f K).isSome])) w) : wpList P ops Q (o :: rest) a w := by
  refine wpList_plain hg fun K' hK' => ?_
  obtain ⟨hrun, hw⟩ := h.look_ok hk he ht hz wK
  unfold Oper.wp
  simp [execOp, hop, hm, hx, hrun, Result.andThen]
  exact hK' _ _ (hK hw)
end
end Go
