/- Texts of one kind, laid together. -/
import Derived.Test.YtlchlklbjocliaaDoorProg
import Derived.Test.YtlchlklbjocliaaDoorMA
import Derived.Test.YtlchlklbjocliaaDoorMA
import Derived.Lib.Hide
import Derived.OwnWalk
import Derived.Maps.OwnSet
import Derived.Maps.OwnOps
import Derived.BigQuiet
import Derived.StillTailTactics
import Derived.BigRegion
import Derived.Carry
/- What the functions of the package frames do with what no call made. -/
namespace Go.Proofs.YtlchlklbjocliaaDoor
open Go Go.RowKit
set_option linter.unusedSimpArgs false
set_option linter.unusedVariables false
set_option maxRecDepth 100000
theorem eqlNil (w : World) : (binOp .eql 29 (.map none) (.map none)).run Tryd.prog w = .ok (.bool true) w := by kernel_rfl
theorem eqlSome (b : Nat) (w : World) : (binOp .eql 29 (.map (some b)) (.map none)).run Tryd.prog w = .ok (.bool false) w := by kernel_rfl
/-- nil, or a struct with no map. -/
def NoFr (w : World) (v : Option Addr) : Prop := v = none ∨ ∃ p, v = some ⟨p, 0, none⟩ ∧ p < w.heap.size ∧ w.cell? ⟨p, 2, none⟩ = some (.map none)
theorem NoFr.grows {w w' : World} {v : Option Addr} (h : NoFr w v) (hg : Grows w w') : NoFr w' v := by
  rcases h with h | ⟨p, h, h1, h2⟩
  · exact Or.inl h
  · exact Or.inr ⟨p, h, hg.lt h1, by rw [hg.cell h1]; exact h2⟩
theorem fnone_nob {w : World} {v : Option Addr} (h : NoFr w v) :
    Calls Tryd.prog 62 #[.pointer v] w fun r w' => r = .returned (.bool true) ∧ w' = w := by
  rcases h with rfl | ⟨p, rfl, h1, h2⟩
  · go_enter Tryd.func62, Tryd.ntmps62
    go_wp2_with fail
    go_ret
    exact ⟨rfl, rfl⟩
  · have hb := eqlNil
    go_enter Tryd.func62, Tryd.ntmps62
    go_wp2_with fail
    go_ret
    exact ⟨rfl, rfl⟩
theorem isOwner_any (i : Int) (w : World) : Calls Tryd.prog 63 #[.int .i64 i] w fun r w' => r = .returned (.bool (decide (0 ≤ i ∧ i < 17))) ∧ w' = w := by
  by_cases h0 : 0 ≤ i
  · by_cases h1 : i < 17
    · rw [show decide (0 ≤ i ∧ i < 17) = true from decide_eq_true ⟨h0, h1⟩]
      go_enter Tryd.func63, Tryd.ntmps63
      go_wp2_with fail
      go_ret
      exact ⟨rfl, rfl⟩
    · rw [show decide (0 ≤ i ∧ i < 17) = false from decide_eq_false (fun h => h1 h.2)]
      go_enter Tryd.func63, Tryd.ntmps63
      go_wp2_with fail
      go_ret
      exact ⟨rfl, rfl⟩
  · rw [show decide (0 ≤ i ∧ i < 17) = false from decide_eq_false (fun h => h0 h.1)]
    go_enter Tryd.func63, Tryd.ntmps63
    go_wp2_with fail
    go_ret
    exact ⟨rfl, rfl⟩
theorem owned_nob {w : World} {v : Option Addr} (h : NoFr w v) (a : Option Addr) (n c : Nat) :
    Calls Tryd.prog 68 #[.pointer v, .slice a n c] w fun r w' => r = .returned (.int .i64 1) ∧ w' = w := by
  go_enter Tryd.func68, Tryd.ntmps68
  go_wp2_with fail
  refine (fnone_nob h).mono ?_
  rintro _ _ ⟨rfl, hw⟩
  rw [hw]
  clear hw
  go_wp2_with fail
  go_ret
  exact ⟨rfl, rfl⟩
theorem wrong_nob {w : World} {v : Option Addr} (h : NoFr w v) (f : Int) (a : Option Addr) (n c : Nat) :
    Calls Tryd.prog 77 #[.pointer v, .int .i64 f, .slice a n c] w fun r w' => r = .returned (.int .i64 1) ∧ w' = w := by
  go_enter Tryd.func77, Tryd.ntmps77
  go_wp2_with fail
  refine (owned_nob h a n c).mono ?_
  rintro _ _ ⟨rfl, hw⟩
  rw [hw]
  clear hw
  go_wp2_with fail
  go_ret
  exact ⟨rfl, rfl⟩
theorem Alloc_nob {w : World} {v : Option Addr} (h : NoFr w v) (i : Int) :
    Calls Tryd.prog 29 #[.pointer v, .int .i64 i] w fun r w' => r = .returned (.tuple #[.int .i64 0, .int .i64 1]) ∧ Grows w w' := by
  go_enter Tryd.func29, Tryd.ntmps29
  go_wp2_with fail
  refine (owned_nob (h.grows ((Grows.refl _).alloc _)) _ _ _).mono ?_
  rintro _ _ ⟨rfl, hw⟩
  rw [hw]
  clear hw
  go_wp2_with fail
  go_ret2
  exact ⟨rfl, (Grows.refl _).alloc _⟩
theorem Quota_nob {w : World} {v : Option Addr} (h : NoFr w v) (i j : Int) :
    Calls Tryd.prog 43 #[.pointer v, .int .i64 i, .int .i64 j] w fun r w' => r = .returned (.int .i64 1) ∧ Grows w w' := by
  go_enter Tryd.func43, Tryd.ntmps43
  go_wp2_with fail
  refine (owned_nob (h.grows ((Grows.refl _).alloc _)) _ _ _).mono ?_
  rintro _ _ ⟨rfl, hw⟩
  rw [hw]
  clear hw
  go_wp2_with fail
  go_ret
  exact ⟨rfl, (Grows.refl _).alloc _⟩
theorem Hold_nob {w : World} {v : Option Addr} (h : NoFr w v) (i j : Int) :
    Calls Tryd.prog 41 #[.pointer v, .int .i64 i, .int .i64 j] w fun r w' => r = .returned (.int .i64 1) ∧ Grows w w' := by
  go_enter Tryd.func41, Tryd.ntmps41
  go_wp2_with fail
  refine (wrong_nob (h.grows ((Grows.refl _).alloc _)) i _ _ _).mono ?_
  rintro _ _ ⟨rfl, hw⟩
  rw [hw]
  clear hw
  go_wp2_with fail
  go_ret
  exact ⟨rfl, (Grows.refl _).alloc _⟩
theorem Free_nob {w : World} {v : Option Addr} (h : NoFr w v) (i j : Int) :
    Calls Tryd.prog 42 #[.pointer v, .int .i64 i, .int .i64 j] w fun r w' => r = .returned (.tuple #[.bool false, .int .i64 1]) ∧ Grows w w' := by
  go_enter Tryd.func42, Tryd.ntmps42
  go_wp2_with fail
  refine (wrong_nob (h.grows ((Grows.refl _).alloc _)) i _ _ _).mono ?_
  rintro _ _ ⟨rfl, hw⟩
  rw [hw]
  clear hw
  go_wp2_with fail
  go_ret2
  exact ⟨rfl, (Grows.refl _).alloc _⟩
theorem Owner_nob {w : World} {v : Option Addr} (h : NoFr w v) (i : Int) :
    Calls Tryd.prog 31 #[.pointer v, .int .i64 i] w fun r w' => r = .returned (.tuple #[.int .i64 0, .int .i64 0, .bool false]) ∧ Grows w w' := by
  go_enter Tryd.func31, Tryd.ntmps31
  go_wp2_with fail
  refine (fnone_nob h).mono ?_
  rintro _ _ ⟨rfl, hw⟩
  rw [hw]
  clear hw
  go_wp2_with fail
  refine bodyPost_ret (results_tmp3 rfl _ _ _) rfl ?_
  exact ⟨rfl, Grows.refl _⟩
theorem Count_nob {w : World} {v : Option Addr} (h : NoFr w v) (i : Int) :
    Calls Tryd.prog 24 #[.pointer v, .int .i64 i] w fun r w' => r = .returned (.tuple #[.int .i64 0, .int .i64 0]) ∧ Grows w w' := by
  go_enter Tryd.func24, Tryd.ntmps24
  go_wp2_with fail
  refine (fnone_nob h).mono ?_
  rintro _ _ ⟨rfl, hw⟩
  rw [hw]
  clear hw
  go_wp2_with fail
  go_ret2
  exact ⟨rfl, Grows.refl _⟩
theorem Sum_nob {w : World} {v : Option Addr} (h : NoFr w v) :
    Calls Tryd.prog 25 #[.pointer v] w fun r w' => r = .returned (.int .i64 0) ∧ Grows w w' := by
  go_enter Tryd.func25, Tryd.ntmps25
  go_wp2_with fail
  refine (fnone_nob h).mono ?_
  rintro _ _ ⟨rfl, hw⟩
  rw [hw]
  clear hw
  go_wp2_with fail
  go_ret
  exact ⟨rfl, Grows.refl _⟩
end Go.Proofs.YtlchlklbjocliaaDoor

/- A map from whole numbers to whole numbers, told by a function. -/
set_option linter.unusedVariables false
set_option maxRecDepth 100000
set_option linter.unusedSimpArgs false
namespace Go
open Go.Maps (Keyed int_keyed keyOf_int_mk)
def imUpd (f : Int → Option Int) (K V : Int) : Int → Option Int := fun x => if x = K then some V else f x
def imDel (f : Int → Option Int) (K : Int) : Int → Option Int := fun x => if x = K then none else f x
abbrev wf64 (x : Int) : Prop := (Lit.int .i64 x).wf = true
section
variable {P : Program} {k e t : TypeId} {w : World} {b s : Nat} {f : Int → Option Int}
/-- Block b is a map of s entries that answers as f does. -/
def IMap (P : Program) (k e : TypeId) (w : World) (b s : Nat) (f : Int → Option Int) : Prop :=
  ∃ D : DataW Unit, w.ownsMap P k (plainElem P e) b s D ∧ Maps.size D = s ∧ ∀ x, wf64 x → (∀ z, D.atKey (.int .i64 x) z = match f x with | some v => .lit (.int .i64 v) | none => z) ∧ Maps.has D (.int .i64 x) = (f x).isSome
theorem ownsMap_tight {D : DataW Unit} {n : Nat} (h : w.ownsMap P k (plainElem P e) b n D) : w.ownsMap P k (plainElem P e) b (Maps.size D) D := by
  obtain ⟨es, clock, hb, F, hs, rfl⟩ := h
  refine ⟨es, clock, hb, F, ?_, rfl⟩
  rw [Maps.size_eq, length_read]
  exact Nat.le_refl _
theorem IMap.lt (h : IMap P k e w b s f) : b < w.heap.size := by
  obtain ⟨D, h, _⟩ := h; exact h.lt
theorem IMap.made (w : World) (P : Program) (k e : TypeId) : IMap P k e (w.alloc (.map #[] 0)) w.heap.size 0 (fun _ => none) :=
  ⟨.map [], World.ownsMap_made w P k _, rfl, fun x _ => ⟨fun z => rfl, rfl⟩⟩
theorem IMap.kept {w' : World} {row : Option Nat} (h : IMap P k e w b s f) (hg : w.grownBy w' row) (hne : some b ≠ row) : IMap P k e w' b s f := by
  obtain ⟨D, h, r⟩ := h; exact ⟨D, h.kept hg hne, r⟩
theorem grown_none {w w' : World} (h : Grows w w') : w.grownBy w' none := ⟨h.below.os, h.below.tape, h.below.output, h.size, fun i hi _ => h.get hi⟩
theorem IMap.grows {w' : World} (h : IMap P k e w b s f) (hg : Grows w w') : IMap P k e w' b s f := h.kept (grown_none hg) (by simp)
theorem isKey (x : Int) : WideAt.IsKeyLit (.int .i64 x) := trivial
theorem lit_ne {x y : Int} (h : x ≠ y) : (Lit.int .i64 x) ≠ (Lit.int .i64 y) := fun e => h (by injection e)
theorem IMap.put {D : DataW Unit} (hk : P.underlying k = some (.int .i64)) (h : w.ownsMap P k (plainElem P e) b s D) (hs : Maps.size D = s) (hf : ∀ x, wf64 x → (∀ z, D.atKey (.int .i64 x) z = match f x with | some v => .lit (.int .i64 v) | none => z) ∧ Maps.has D (.int .i64 x) = (f x).isSome)
    {K V : Int} (wK : wf64 K) : Maps.size (D.put (.int .i64 K) (.lit (.int .i64 V))) = (if (f K).isSome then s else s + 1) ∧ ∀ x, wf64 x → (∀ z, (D.put (.int .i64 K) (.lit (.int .i64 V))).atKey (.int .i64 x) z = match imUpd f K V x with | some v => .lit (.int .i64 v) | none => z) ∧ Maps.has (D.put (.int .i64 K) (.lit (.int .i64 V))) (.int .i64 x) = (imUpd f K V x).isSome := by
  have ht := h.tidy (int_keyed hk)
  refine ⟨?_, fun x wx => ?_⟩
  · rw [Maps.size_put ht, (hf K wK).2, hs]
  · unfold imUpd
    by_cases hx : x = K
    · subst hx
      simp only [if_pos]
      exact ⟨fun z => Maps.atKey_put_same h.isMap (isKey _) _ _, Maps.has_put_same h.isMap (isKey _) _⟩
    · simp only [if_neg hx]
      obtain ⟨h1, h2⟩ := hf x wx
      exact ⟨fun z => by rw [Maps.atKey_put_other (lit_ne hx)]; exact h1 z, by rw [Maps.has_put_other (lit_ne hx)]; exact h2⟩
theorem IMap.update (h : IMap P k e w b s f) (hk : P.underlying k = some (.int .i64)) (he : P.underlying e = some (.int .i64)) (ht : P.underlying t = some (.map k e)) (hn : s < maxLen) {K V : Int} (wK : wf64 K) (wV : wf64 V) :
    ∃ w', (Instr.mapUpdate t (.map (some b)) (.int .i64 K) (.int .i64 V)).run P w = .ok () w' ∧ IMap P k e w' b (if (f K).isSome then s else s + 1) (imUpd f K V) ∧ w.grownBy w' (some b) := by
  obtain ⟨D, h, hs, hf⟩ := h
  obtain ⟨w', hrun, h1, h2⟩ := h.update (int_keyed hk) ht hn (keyOf_int_mk hk wK) (plainElem_int he wV)
  obtain ⟨p1, p2⟩ := IMap.put hk h hs hf (V := V) wK
  have h3 := ownsMap_tight h1
  rw [p1] at h3
  exact ⟨w', hrun, ⟨_, h3, p1, p2⟩, h2⟩
theorem IMap.look (h : IMap P k e w b s f) (hk : P.underlying k = some (.int .i64)) (he : P.underlying e = some (.int .i64)) (ht : P.underlying t = some (.map k e)) (hz : (zeroValue e).run P w = .ok (.int .i64 0) w) {K : Int} (wK : wf64 K) :
    (Instr.lookup t (.map (some b)) (.int .i64 K) false).run P w = .ok (.int .i64 ((f K).getD 0)) w ∧ wf64 ((f K).getD 0) := by
  obtain ⟨D, h, hs, hf⟩ := h
  obtain ⟨c, hrun, hat, hw⟩ := h.lookup_int (int_keyed hk) ht he hz (keyOf_int_mk hk wK)
  rw [(hf K wK).1] at hat
  have : c = (f K).getD 0 := by
    cases hfk : f K <;> simp [hfk] at hat <;> simp [hat]
  rw [← this]
  exact ⟨hrun, hw⟩
theorem IMap.look_ok (h : IMap P k e w b s f) (hk : P.underlying k = some (.int .i64)) (he : P.underlying e = some (.int .i64)) (ht : P.underlying t = some (.map k e)) (hz : (zeroValue e).run P w = .ok (.int .i64 0) w) {K : Int} (wK : wf64 K) :
    (Instr.lookup t (.map (some b)) (.int .i64 K) true).run P w = .ok (.tuple #[.int .i64 ((f K).getD 0), .bool (f K).isSome]) w ∧ wf64 ((f K).getD 0) := by
  obtain ⟨D, h, hs, hf⟩ := h
  obtain ⟨v, ps, hrun, hv⟩ := h.look_ok (int_keyed hk) ht hz (plainElem_int he (by decide)) (keyOf_int_mk hk wK)
  obtain ⟨c, rfl, hc, hwc⟩ := plainElem_int_inv he hv
  have hat := congrArg Prod.fst hc
  simp only at hat
  rw [(hf K wK).1] at hat
  have : c = (f K).getD 0 := by
    cases hfk : f K <;> simp [hfk] at hat <;> simp [hat]
  rw [← this]
  rw [(hf K wK).2] at hrun
  exact ⟨hrun, hwc⟩
end
section
variable {P : Program} (w : World) {ops : Array Oper} {rest : List Oper} {o : Oper} {a : Act} {Q : Exit → Act → World → Prop}
theorem wpList_imap_update (hg : o.guard = none) (m x v : Operand) (t : TypeId) (hop : o.op = Op.mapUpdate t m x v ∨ o.op = Op.insert t m x v) (k e : TypeId) (hk : P.underlying k = some (.int .i64)) (he : P.underlying e = some (.int .i64)) (ht : P.underlying t = some (.map k e))
    (b s : Nat) (f : Int → Option Int) (hm : a.eval m = .map (some b)) (h : IMap P k e w b s f) (hn : s < maxLen) (K V : Int) (hx : a.eval x = .int .i64 K) (hv : a.eval v = .int .i64 V) (wK : wf64 K) (wV : wf64 V)
    (hK : ∀ w', IMap P k e w' b (if (f K).isSome then s else s + 1) (imUpd f K V) → w.grownBy w' (some b) → wpList P ops Q rest (a.put o.dst undef) w') : wpList P ops Q (o :: rest) a w := by
  refine wpList_plain hg fun K' hK' => ?_
  obtain ⟨w', hrun, r1, r2⟩ := h.update hk he ht hn wK wV
  unfold Oper.wp
  rcases hop with hop | hop
  all_goals
    simp [execOp, hop, hm, hx, hv, hrun, Result.andThen]
    exact hK' _ _ (hK w' r1 r2)
theorem wpList_imap_look (hg : o.guard = none) (m x : Operand) (t : TypeId) (hop : o.op = Op.lookup t m x false) (k e : TypeId) (hk : P.underlying k = some (.int .i64)) (he : P.underlying e = some (.int .i64)) (ht : P.underlying t = some (.map k e))
    (hz : (zeroValue e).run P w = .ok (.int .i64 0) w) (b s : Nat) (f : Int → Option Int) (hm : a.eval m = .map (some b)) (h : IMap P k e w b s f) (K : Int) (hx : a.eval x = .int .i64 K) (wK : wf64 K)
    (hK : wf64 ((f K).getD 0) → wpList P ops Q rest (a.put o.dst (.int .i64 ((f K).getD 0))) w) : wpList P ops Q (o :: rest) a w := by
  refine wpList_plain hg fun K' hK' => ?_
  obtain ⟨hrun, hw⟩ := h.look hk he ht hz wK
  unfold Oper.wp
  simp [execOp, hop, hm, hx, hrun, Result.andThen]
  exact hK' _ _ (hK hw)
theorem wpList_imap_look_ok (hg : o.guard = none) (m x : Operand) (t : TypeId) (hop : o.op = Op.lookup t m x true) (k e : TypeId) (hk : P.underlying k = some (.int .i64)) (he : P.underlying e = some (.int .i64)) (ht : P.underlying t = some (.map k e))
    (hz : (zeroValue e).run P w = .ok (.int .i64 0) w) (b s : Nat) (f : Int → Option Int) (hm : a.eval m = .map (some b)) (h : IMap P k e w b s f) (K : Int) (hx : a.eval x = .int .i64 K) (wK : wf64 K)
    (hK : wf64 ((f K).getD 0) → wpList P ops Q rest (a.put o.dst (.tuple #[.int .i64 ((f K).getD 0), .bool (f K).isSome])) w) : wpList P ops Q (o :: rest) a w := by
  refine wpList_plain hg fun K' hK' => ?_
  obtain ⟨hrun, hw⟩ := h.look_ok hk he ht hz wK
  unfold Oper.wp
  simp [execOp, hop, hm, hx, hrun, Result.andThen]
  exact hK' _ _ (hK hw)
end
end Go

/- More of a map from whole numbers to whole numbers: delete, len, an entry that is made and stored. -/
set_option linter.unusedVariables false
set_option maxRecDepth 100000
set_option linter.unusedSimpArgs false
namespace Go
open Go.Maps (Keyed int_keyed keyOf_int_mk)
open Go.WideElems (Fit)
open Go.ChangeMaps Go.MapKept
section
variable {P : Program} {k e t : TypeId} {w : World} {b s : Nat} {f : Int → Option Int}
theorem IMap.of_block {w' : World} (h : IMap P k e w b s f) (hb : w'.heap[b]? = w.heap[b]?) : IMap P k e w' b s f := by
  obtain ⟨D, ⟨es, clock, h1, F, h2, h3⟩, r⟩ := h
  exact ⟨D, ⟨es, clock, by rw [hb]; exact h1, F, h2, h3⟩, r⟩
theorem IMap.len (h : IMap P k e w b s f) (ht : P.underlying t = some (.map k e)) (ty : TypeId) : (Builtin.len_ #[t] ty #[.map (some b)]).run P w = .ok (.int .i64 s) w := by
  obtain ⟨D, h, hs, _⟩ := h
  rw [h.len ht ty, hs]
theorem IMap.del (h : IMap P k e w b s f) (hk : P.underlying k = some (.int .i64)) (ht : P.underlying t = some (.map k e)) {K : Int} (wK : wf64 K) (ty : TypeId) :
    ∃ w', (Builtin.delete_ #[t, k] ty #[.map (some b), .int .i64 K]).run P w = .ok (.tuple #[]) w' ∧ IMap P k e w' b (if (f K).isSome then s - 1 else s) (imDel f K) ∧ w.grownBy w' (some b) := by
  obtain ⟨D, h, hs, hf⟩ := h
  obtain ⟨w', hrun, h1, h2⟩ := h.drop (int_keyed hk) ht (keyOf_int_mk hk wK) ty
  have htd := h.tidy (int_keyed hk)
  have hsz := Maps.size_del (k := .int .i64 K) htd
  have h3 := ownsMap_tight h1
  have e1 : Maps.size (D.del (.int .i64 K)) = (if (f K).isSome then s - 1 else s) := by
    rw [(hf K wK).2, hs] at hsz
    by_cases hq : (f K).isSome = true
    · rw [if_pos hq] at hsz ⊢; omega
    · rw [if_neg hq] at hsz ⊢; omega
  rw [e1] at h3
  refine ⟨w', hrun, ⟨_, h3, e1, fun x wx => ?_⟩, h2.grown⟩
  unfold imDel
  by_cases hx : x = K
  · subst hx
    simp only [if_pos]
    exact ⟨fun z => Maps.atKey_del_same z, Maps.has_del_same⟩
  · simp only [if_neg hx]
    obtain ⟨g1, g2⟩ := hf x wx
    exact ⟨fun z => by rw [Maps.atKey_del_other (lit_ne hx)]; exact g1 z, by rw [Maps.has_del_other (lit_ne hx)]; exact g2⟩
/-- 'm[K], .. = V, ..' for a key that is not there yet. -/
theorem IMap.entry (h : IMap P k e w b s f) (hk : P.underlying k = some (.int .i64)) (he : P.underlying e = some (.int .i64)) (ht : P.underlying t = some (.map k e)) (hz : (zeroValue e).run P w = .ok (.int .i64 0) w) (hn : s < maxLen) {K : Int} (wK : wf64 K) (hK : f K = none) :
    ∃ w1 st, (Instr.mapEntry t (.map (some b)) (.int .i64 K)).run P w = .ok (.tuple #[.int .i64 0, .int .i64 st]) w1 ∧ w.grownBy w1 (some b) ∧
      ∀ w2 : World, w2.heap[b]? = w1.heap[b]? → ∀ V, wf64 V → ∃ w3, (Instr.entryStore t (.map (some b)) (.int .i64 st) (.int .i64 V)).run P w2 = .ok () w3 ∧ IMap P k e w3 b (s + 1) (imUpd f K V) ∧ w2.grownBy w3 (some b) := by
  have hI := h
  obtain ⟨D, ⟨es, clock, hb, F, hle, rfl⟩, hs, hf⟩ := h
  have hkey := keyOf_int_mk hk wK
  have Kd := int_keyed (P := P) (k := k) (q := .i64) hk
  have habs : (Instr.findKey k (.int .i64 K) es.toList).run P w = .ok none w ∧ ∀ x ∈ es.toList, x.key ≠ .int .i64 K := by
    rcases Kd.find w hkey es.toList (fun x hx => by obtain ⟨y, hy⟩ := F.reads x hx; exact ⟨_, WideElems.rd_key hy⟩) with hh | ⟨j, e0, h1, h2, h3⟩
    · exact hh
    · exfalso
      have hl := (hf K wK).2
      rw [hK] at hl
      rcases Maps.fit_look false Kd ht hz hb F hkey with ⟨_, hno, _⟩ | ⟨e1, y, hm, hk1, _, _, hat, _⟩
      · exact hno e0 (List.mem_of_getElem? h2) h3
      · rw [Maps.has_true_of_atKey hat] at hl
        cases hl
  obtain ⟨h1, h2⟩ := habs
  refine ⟨setBlock w b (.map (es.push ⟨.int .i64 K, .int .i64 0, clock⟩) (clock + 1)), clock, ?_, ⟨rfl, rfl, rfl, by simp [setBlock], fun i _ hi => heap_setBlock_other hb _ (fun e1 => hi (by rw [e1]))⟩, fun w2 hw2 V wV => ?_⟩
  · simp [Instr.mapEntry, run_underlying ht, MapKept.run_getObj_map hb, Kd.check w false hkey, h1, hz, MapKept.run_setObj_map _ hb, Result.andThen, setBlock, goInt]
  · rw [heap_setBlock_same hb] at hw2
    obtain ⟨w', hrun, hI', _⟩ := hI.update hk he ht hn wK wV
    rw [hK] at hI'
    have hrun2 : (Instr.mapUpdate t (.map (some b)) (.int .i64 K) (.int .i64 V)).run P w = .ok () (setBlock w b (.map (es.push ⟨.int .i64 K, .int .i64 V, clock⟩) (clock + 1))) := by
      simp [Instr.mapUpdate, run_underlying ht, MapKept.run_getObj_map hb, Kd.check w false hkey, h1, MapKept.run_setObj_map _ hb, Result.andThen, setBlock]
    rw [hrun] at hrun2
    obtain rfl : w' = setBlock w b (.map (es.push ⟨.int .i64 K, .int .i64 V, clock⟩) (clock + 1)) := by simpa using hrun2
    refine ⟨setBlock w2 b (.map (es.push ⟨.int .i64 K, .int .i64 V, clock⟩) (clock + 1)), ?_, ?_, ⟨rfl, rfl, rfl, by simp [setBlock], fun i _ hi => heap_setBlock_other hw2 _ (fun e1 => hi (by rw [e1]))⟩⟩
    · have hfi : (es.push ⟨.int .i64 K, .int .i64 0, clock⟩).findIdx? (fun x => (x.born : Int) == (clock : Int)) = some es.size := by
        rw [Array.findIdx?_eq_some_iff_getElem]
        refine ⟨by simp, by simp, fun j hj => ?_⟩
        have hj2 : j < es.size := hj
        rw [Array.getElem_push_lt hj2]
        have := F.stamped.1 es[j] (by simp)
        simp
        omega
      have hmod : (es.push ⟨.int .i64 K, .int .i64 0, clock⟩).modify es.size (fun x => { x with val := .int .i64 V }) = es.push ⟨.int .i64 K, .int .i64 V, clock⟩ := by
        apply Array.ext
        · simp
        · intro i h1 h2
          rw [Array.getElem_modify]
          simp at h1
          by_cases hi : es.size = i
          · subst hi; simp
          · rw [if_neg hi, Array.getElem_push_lt (by omega), Array.getElem_push_lt (by omega)]
      simp [Instr.entryStore, MapKept.run_getObj_map hw2, asInt, asIntOf, Result.andThen, hfi, hmod, MapKept.run_setObj_map _ hw2, setBlock]
    · refine IMap.of_block (by simpa using hI') ?_
      rw [heap_setBlock_same hw2, heap_setBlock_same hb]
end
end Go

/- A map from whole numbers to bools, told by a function. -/
set_option linter.unusedVariables false
set_option maxRecDepth 100000
set_option linter.unusedSimpArgs false
namespace Go
open Go.Maps (Keyed int_keyed keyOf_int_mk)
def bmUpd (f : Int → Option Bool) (K : Int) (V : Bool) : Int → Option Bool := fun x => if x = K then some V else f x
def bmDel (f : Int → Option Bool) (K : Int) : Int → Option Bool := fun x => if x = K then none else f x
section
variable {P : Program} {k e t : TypeId} {w : World} {b s : Nat} {f : Int → Option Bool}
/-- Block b is a map of s entries that answers as f does. -/
def BMap (P : Program) (k e : TypeId) (w : World) (b s : Nat) (f : Int → Option Bool) : Prop :=
  ∃ D : DataW Unit, w.ownsMap P k (plainElem P e) b s D ∧ Maps.size D = s ∧ ∀ x, wf64 x → (∀ z, D.atKey (.int .i64 x) z = match f x with | some v => .lit (.bool v) | none => z) ∧ Maps.has D (.int .i64 x) = (f x).isSome
theorem BMap.lt (h : BMap P k e w b s f) : b < w.heap.size := by
  obtain ⟨D, h, _⟩ := h; exact h.lt
theorem BMap.made (w : World) (P : Program) (k e : TypeId) : BMap P k e (w.alloc (.map #[] 0)) w.heap.size 0 (fun _ => none) :=
  ⟨.map [], World.ownsMap_made w P k _, rfl, fun x _ => ⟨fun z => rfl, rfl⟩⟩
theorem BMap.kept {w' : World} {row : Option Nat} (h : BMap P k e w b s f) (hg : w.grownBy w' row) (hne : some b ≠ row) : BMap P k e w' b s f := by
  obtain ⟨D, h, r⟩ := h; exact ⟨D, h.kept hg hne, r⟩
theorem BMap.grows {w' : World} (h : BMap P k e w b s f) (hg : Grows w w') : BMap P k e w' b s f := h.kept (grown_none hg) (by simp)
theorem BMap.of_block {w' : World} (h : BMap P k e w b s f) (hb : w'.heap[b]? = w.heap[b]?) : BMap P k e w' b s f := by
  obtain ⟨D, ⟨es, clock, hb0, F, hs, hD⟩, r⟩ := h
  exact ⟨D, ⟨es, clock, hb.trans hb0, F, hs, hD⟩, r⟩
theorem BMap.put {D : DataW Unit} (hk : P.underlying k = some (.int .i64)) (h : w.ownsMap P k (plainElem P e) b s D) (hs : Maps.size D = s) (hf : ∀ x, wf64 x → (∀ z, D.atKey (.int .i64 x) z = match f x with | some v => .lit (.bool v) | none => z) ∧ Maps.has D (.int .i64 x) = (f x).isSome)
    {K : Int} {V : Bool} (wK : wf64 K) : Maps.size (D.put (.int .i64 K) (.lit (.bool V))) = (if (f K).isSome then s else s + 1) ∧ ∀ x, wf64 x → (∀ z, (D.put (.int .i64 K) (.lit (.bool V))).atKey (.int .i64 x) z = match bmUpd f K V x with | some v => .lit (.bool v) | none => z) ∧ Maps.has (D.put (.int .i64 K) (.lit (.bool V))) (.int .i64 x) = (bmUpd f K V x).isSome := by
  have ht := h.tidy (int_keyed hk)
  refine ⟨?_, fun x wx => ?_⟩
  · rw [Maps.size_put ht, (hf K wK).2, hs]
  · unfold bmUpd
    by_cases hx : x = K
    · subst hx
      simp only [if_pos]
      exact ⟨fun z => Maps.atKey_put_same h.isMap (isKey _) _ _, Maps.has_put_same h.isMap (isKey _) _⟩
    · simp only [if_neg hx]
      obtain ⟨h1, h2⟩ := hf x wx
      exact ⟨fun z => by rw [Maps.atKey_put_other (lit_ne hx)]; exact h1 z, by rw [Maps.has_put_other (lit_ne hx)]; exact h2⟩
theorem BMap.update (h : BMap P k e w b s f) (hk : P.underlying k = some (.int .i64)) (he : P.underlying e = some .bool) (ht : P.underlying t = some (.map k e)) (hn : s < maxLen) {K : Int} (V : Bool) (wK : wf64 K) :
    ∃ w', (Instr.mapUpdate t (.map (some b)) (.int .i64 K) (.bool V)).run P w = .ok () w' ∧ BMap P k e w' b (if (f K).isSome then s else s + 1) (bmUpd f K V) ∧ w.grownBy w' (some b) := by
  obtain ⟨D, h, hs, hf⟩ := h
  obtain ⟨w', hrun, h1, h2⟩ := h.update (int_keyed hk) ht hn (keyOf_int_mk hk wK) (plainElem_bool he V)
  obtain ⟨p1, p2⟩ := BMap.put hk h hs hf (V := V) wK
  have h3 := ownsMap_tight h1
  rw [p1] at h3
  exact ⟨w', hrun, ⟨_, h3, p1, p2⟩, h2⟩
theorem plainElem_bool_inv {e : TypeId} (he : P.underlying e = some .bool) {v : Value} {z : DataW Unit × List MemPlace} (h : plainElem P e v = some z) : ∃ x, v = .bool x ∧ z = (.lit (.bool x), []) := by
  unfold plainElem at h
  cases v <;> simp_all [DataW.trod]
theorem BMap.look (h : BMap P k e w b s f) (hk : P.underlying k = some (.int .i64)) (he : P.underlying e = some .bool) (ht : P.underlying t = some (.map k e)) (hz : (zeroValue e).run P w = .ok (.bool false) w) {K : Int} (wK : wf64 K) :
    (Instr.lookup t (.map (some b)) (.int .i64 K) false).run P w = .ok (.bool ((f K).getD false)) w := by
  obtain ⟨D, h, hs, hf⟩ := h
  obtain ⟨v, ps, hrun, hv⟩ := h.lookup (int_keyed hk) ht hz (plainElem_bool he false) (keyOf_int_mk hk wK)
  obtain ⟨x, rfl, hx⟩ := plainElem_bool_inv he hv
  simp only [Prod.mk.injEq] at hx
  have hat := hx.1
  rw [(hf K wK).1] at hat
  have : x = (f K).getD false := by
    cases hfk : f K <;> simp [hfk] at hat <;> simp [hat]
  rw [← this]
  exact hrun
theorem BMap.len (h : BMap P k e w b s f) (ht : P.underlying t = some (.map k e)) (ty : TypeId) : (Builtin.len_ #[t] ty #[.map (some b)]).run P w = .ok (.int .i64 s) w := by
  obtain ⟨D, h, hs, _⟩ := h
  rw [h.len ht ty, hs]
theorem BMap.del (h : BMap P k e w b s f) (hk : P.underlying k = some (.int .i64)) (ht : P.underlying t = some (.map k e)) {K : Int} (wK : wf64 K) (ty : TypeId) :
    ∃ w', (Builtin.delete_ #[t, k] ty #[.map (some b), .int .i64 K]).run P w = .ok (.tuple #[]) w' ∧ BMap P k e w' b (if (f K).isSome then s - 1 else s) (bmDel f K) ∧ w.grownBy w' (some b) := by
  obtain ⟨D, h, hs, hf⟩ := h
  obtain ⟨w', hrun, h1, h2⟩ := h.drop (int_keyed hk) ht (keyOf_int_mk hk wK) ty
  have htd := h.tidy (int_keyed hk)
  have hsz := Maps.size_del (k := .int .i64 K) htd
  have h3 := ownsMap_tight h1
  have e1 : Maps.size (D.del (.int .i64 K)) = (if (f K).isSome then s - 1 else s) := by
    rw [(hf K wK).2, hs] at hsz
    by_cases hq : (f K).isSome = true
    · rw [if_pos hq] at hsz ⊢; omega
    · rw [if_neg hq] at hsz ⊢; omega
  rw [e1] at h3
  refine ⟨w', hrun, ⟨_, h3, e1, fun x wx => ?_⟩, h2.grown⟩
  unfold bmDel
  by_cases hx : x = K
  · subst hx
    simp only [if_pos]
    exact ⟨fun z => Maps.atKey_del_same z, Maps.has_del_same⟩
  · simp only [if_neg hx]
    obtain ⟨g1, g2⟩ := hf x wx
    exact ⟨fun z => by rw [Maps.atKey_del_other (lit_ne hx)]; exact g1 z, by rw [Maps.has_del_other (lit_ne hx)]; exact g2⟩
end
end Go

/- What a Frames holds: what its functions answer. -/
namespace Go.Proofs.YtlchlklbjocliaaDoor
open Go Go.RowKit
set_option linter.unusedSimpArgs false
set_option linter.unusedVariables false
set_option maxRecDepth 100000
/-- How many below n. -/
def cn (p : Nat → Bool) : Nat → Nat
  | 0 => 0
  | n + 1 => cn p n + if p n then 1 else 0
theorem cn_congr {p q : Nat → Bool} : ∀ {n : Nat}, (∀ i, i < n → p i = q i) → cn p n = cn q n
  | 0, _ => rfl
  | n + 1, h => by unfold cn; rw [cn_congr fun i hi => h i (by omega), h n (by omega)]
theorem cn_full {p : Nat → Bool} : ∀ {n : Nat}, (∀ i, i < n → p i = true) → cn p n = n
  | 0, _ => rfl
  | n + 1, h => by unfold cn; rw [cn_full fun i hi => h i (by omega), h n (by omega)]; rfl
theorem cn_none {p : Nat → Bool} : ∀ {n : Nat}, (∀ i, i < n → p i = false) → cn p n = 0
  | 0, _ => rfl
  | n + 1, h => by unfold cn; rw [cn_none fun i hi => h i (by omega), h n (by omega)]; rfl
theorem cn_le {p : Nat → Bool} : ∀ {n : Nat}, cn p n ≤ n
  | 0 => Nat.le_refl _
  | n + 1 => by unfold cn; have := cn_le (p := p) (n := n); split <;> omega
/-- One more. -/
theorem cn_add {p q : Nat → Bool} {i : Nat} : ∀ {n : Nat}, i < n → (∀ j, j < n → j ≠ i → p j = q j) → p i = false → q i = true → cn q n = cn p n + 1
  | 0, h, _, _, _ => by omega
  | n + 1, h, hne, h0, h1 => by
    unfold cn
    by_cases e : i = n
    · subst e
      rw [cn_congr (p := q) (q := p) (fun j hj => (hne j (by omega) (by omega)).symm), h0, h1]; rfl
    · rw [cn_add (by omega) (fun j hj hn => hne j (by omega) hn) h0 h1, hne n (by omega) (by omega)]; omega
def upF (f : Nat → Nat) (i v : Nat) : Nat → Nat := fun j => if j = i then v else f j
theorem upF_same (f : Nat → Nat) (i v : Nat) : upF f i v i = v := by unfold upF; rw [if_pos rfl]
theorem upF_ne (f : Nat → Nat) {i j : Nat} (v : Nat) (h : j ≠ i) : upF f i v j = f j := by unfold upF; rw [if_neg h]
/-- How many an owner has. -/
def ownC (n : Nat) (T O : Nat → Nat) (o : Nat) : Nat := cn (fun j => decide (0 < T j ∧ O j = o)) n
def heldC (n : Nat) (T : Nat → Nat) : Nat := cn (fun j => decide (0 < T j)) n
def tmF (n : Nat) (T : Nat → Nat) : Int → Option Int := fun x => if 0 ≤ x ∧ x < n ∧ 0 < T x.toNat then some (T x.toNat : Nat) else none
/-- The struct's cells. -/
def FrRow (w : World) (p bt bw n first : Nat) (own : Nat → Nat) (quo : Nat → Int) (low : Nat) : Prop :=
  ∃ cs t, Row w p cs t ∧ cs.size = 39 ∧ cs[0]? = some (.int .i64 n) ∧ cs[1]? = some (.int .i64 first) ∧ cs[2]? = some (.map (some bt)) ∧ cs[3]? = some (.map (some bw)) ∧
    (∀ i, i < 17 → cs[4 + i]? = some (.int .i64 (own i : Nat))) ∧ (∀ i, i < 17 → cs[21 + i]? = some (.int .i64 (quo i))) ∧ cs[38]? = some (.int .i64 low)
theorem FrRow.chg {S : List Nat} {w w' : World} {p bt bw n first low : Nat} {own : Nat → Nat} {quo : Nat → Int} (h : FrRow w p bt bw n first own quo low) (hc : Chg S w w') (hp : p ∉ S) : FrRow w' p bt bw n first own quo low := by
  obtain ⟨cs, t, hr, r⟩ := h
  exact ⟨cs, t, hr.chg hc hp, r⟩
theorem FrRow.lt {w : World} {p bt bw n first low : Nat} {own : Nat → Nat} {quo : Nat → Int} (h : FrRow w p bt bw n first own quo low) : p < w.heap.size := by
  obtain ⟨cs, t, hr, r⟩ := h
  exact hr.lt
theorem FrRow.frozen {w : World} {p bt bw n first low : Nat} {own : Nat → Nat} {quo : Nat → Int} (h : FrRow w p bt bw n first own quo low) (j : Nat) : w.frozen? ⟨p, j, none⟩ = false := by
  obtain ⟨cs, t, hr, r⟩ := h
  exact hr.frozen j
theorem FrRow.cells {w : World} {p bt bw n first low : Nat} {own : Nat → Nat} {quo : Nat → Int} (h : FrRow w p bt bw n first own quo low) :
    w.cell? ⟨p, 0, none⟩ = some (.int .i64 n) ∧ w.cell? ⟨p, 1, none⟩ = some (.int .i64 first) ∧ w.cell? ⟨p, 2, none⟩ = some (.map (some bt)) ∧ w.cell? ⟨p, 3, none⟩ = some (.map (some bw)) ∧ w.cell? ⟨p, 38, none⟩ = some (.int .i64 low) := by
  obtain ⟨cs, t, hr, _, h0, h1, h2, h3, _, _, h4⟩ := h
  exact ⟨by rw [hr.cell]; exact h0, by rw [hr.cell]; exact h1, by rw [hr.cell]; exact h2, by rw [hr.cell]; exact h3, by rw [hr.cell]; exact h4⟩
theorem FrRow.own {w : World} {p bt bw n first low : Nat} {own : Nat → Nat} {quo : Nat → Int} (h : FrRow w p bt bw n first own quo low) {i : Nat} (hi : i < 17) : w.cell? ⟨p, 4 + i, none⟩ = some (.int .i64 (own i : Nat)) := by
  obtain ⟨cs, t, hr, _, _, _, _, _, h5, _, _⟩ := h
  rw [hr.cell]; exact h5 i hi
theorem FrRow.quo {w : World} {p bt bw n first low : Nat} {own : Nat → Nat} {quo : Nat → Int} (h : FrRow w p bt bw n first own quo low) {i : Nat} (hi : i < 17) : w.cell? ⟨p, 21 + i, none⟩ = some (.int .i64 (quo i)) := by
  obtain ⟨cs, t, hr, _, _, _, _, _, _, h6, _⟩ := h
  rw [hr.cell]; exact h6 i hi
theorem FrRow.setOwn {w : World} {p bt bw n first low : Nat} {own : Nat → Nat} {quo : Nat → Int} (h : FrRow w p bt bw n first own quo low) {i : Nat} (hi : i < 17) (v : Nat) : FrRow (w.setCell ⟨p, 4 + i, none⟩ (.int .i64 (v : Nat))) p bt bw n first (upF own i v) quo low := by
  obtain ⟨cs, t, hr, h9, h0, h1, h2, h3, h5, h6, h7⟩ := h
  refine ⟨_, t, hr.setCell (i := 4 + i) (by omega) _, by simpa using h9, ?_, ?_, ?_, ?_, fun j hj => ?_, fun j hj => ?_, ?_⟩
  all_goals rw [Array.getElem?_set]
  · rw [if_neg (by omega)]; exact h0
  · rw [if_neg (by omega)]; exact h1
  · rw [if_neg (by omega)]; exact h2
  · rw [if_neg (by omega)]; exact h3
  · unfold upF
    by_cases e : j = i
    · subst e; rw [if_pos rfl, if_pos rfl]
    · rw [if_neg (by omega), if_neg e]; exact h5 j hj
  · rw [if_neg (by omega)]; exact h6 j hj
  · rw [if_neg (by omega)]; exact h7
theorem FrRow.setQuo {w : World} {p bt bw n first low : Nat} {own : Nat → Nat} {quo : Nat → Int} (h : FrRow w p bt bw n first own quo low) {i : Nat} (hi : i < 17) (v : Int) : FrRow (w.setCell ⟨p, 21 + i, none⟩ (.int .i64 v)) p bt bw n first own (fun j => if j = i then v else quo j) low := by
  obtain ⟨cs, t, hr, h9, h0, h1, h2, h3, h5, h6, h7⟩ := h
  refine ⟨_, t, hr.setCell (i := 21 + i) (by omega) _, by simpa using h9, ?_, ?_, ?_, ?_, fun j hj => ?_, fun j hj => ?_, ?_⟩
  all_goals rw [Array.getElem?_set]
  · rw [if_neg (by omega)]; exact h0
  · rw [if_neg (by omega)]; exact h1
  · rw [if_neg (by omega)]; exact h2
  · rw [if_neg (by omega)]; exact h3
  · rw [if_neg (by omega)]; exact h5 j hj
  · by_cases e : j = i
    · subst e; rw [if_pos rfl]; simp
    · rw [if_neg (by omega), h6 j hj]; simp [e]
  · rw [if_neg (by omega)]; exact h7
theorem FrRow.setLow {w : World} {p bt bw n first low : Nat} {own : Nat → Nat} {quo : Nat → Int} (h : FrRow w p bt bw n first own quo low) (v : Nat) : FrRow (w.setCell ⟨p, 38, none⟩ (.int .i64 (v : Nat))) p bt bw n first own quo v := by
  obtain ⟨cs, t, hr, h9, h0, h1, h2, h3, h5, h6, h7⟩ := h
  refine ⟨_, t, hr.setCell (i := 38) (by omega) _, by simpa using h9, ?_, ?_, ?_, ?_, fun j hj => ?_, fun j hj => ?_, ?_⟩
  all_goals rw [Array.getElem?_set]
  · rw [if_neg (by omega)]; exact h0
  · rw [if_neg (by omega)]; exact h1
  · rw [if_neg (by omega)]; exact h2
  · rw [if_neg (by omega)]; exact h3
  · rw [if_neg (by omega)]; exact h5 j hj
  · rw [if_neg (by omega)]; exact h6 j hj
  · rw [if_pos rfl]
/-- A Frames: n frames, whose times and owners are T and O. -/
structure FrAt (w : World) (p bt bw n first : Nat) (T O : Nat → Nat) (quo : Nat → Int) (low : Nat) : Prop where
  row : FrRow w p bt bw n first (ownC n T O) quo low
  tm : IMap Tryd.prog 3 3 w bt (heldC n T) (tmF n T)
  wh : ∃ s g, s ≤ heldC n T ∧ IMap Tryd.prog 3 3 w bw s g ∧ (∀ j, j < n → 0 < T j → (g j).getD 0 = O j) ∧ (∀ j : Nat, first ≤ j → j < n → 0 < T j → (g j).isSome) ∧ (∀ x : Int, ¬ (0 ≤ x ∧ x < n ∧ 0 < T x.toNat) → g x = none)
  n1 : 1 ≤ n
  n2 : n ≤ 65536
  fl : first ≤ low
  lo : low ≤ n
  below : ∀ j, j < low → 0 < T j
  ob : ∀ j, j < n → 0 < T j → O j < 17
  tb : ∀ j, j < n → T j ≤ 65536
  ne : p ≠ bt ∧ p ≠ bw ∧ bt ≠ bw
theorem IMap.chg' {S : List Nat} {w w' : World} {b s : Nat} {f : Int → Option Int} (h : IMap Tryd.prog 3 3 w b s f) (hc : Chg S w w') (hb : b ∉ S) : IMap Tryd.prog 3 3 w' b s f := h.of_block (hc.get h.lt hb)
theorem FrAt.chg {S : List Nat} {w w' : World} {p bt bw n first low : Nat} {T O : Nat → Nat} {quo : Nat → Int} (h : FrAt w p bt bw n first T O quo low) (hc : Chg S w w') (h1 : p ∉ S ∧ bt ∉ S ∧ bw ∉ S) : FrAt w' p bt bw n first T O quo low := by
  obtain ⟨s, g, g1, g2, g3⟩ := h.wh
  exact ⟨h.row.chg hc h1.1, IMap.chg' h.tm hc h1.2.1, ⟨s, g, g1, IMap.chg' g2 hc h1.2.2, g3⟩, h.n1, h.n2, h.fl, h.lo, h.below, h.ob, h.tb, h.ne⟩
theorem FrAt.grows {w w' : World} {p bt bw n first low : Nat} {T O : Nat → Nat} {quo : Nat → Int} (h : FrAt w p bt bw n first T O quo low) (hg : Grows w w') : FrAt w' p bt bw n first T O quo low := h.chg (S := []) (Chg.of_grows hg) (by simp)
theorem wf_of {x : Int} (h0 : -9223372036854775808 ≤ x) (h1 : x < 9223372036854775808) : wf64 x := by
  have e1 : IntKind.i64.min = -9223372036854775808 := by decide
  have e2 : IntKind.i64.max = 9223372036854775807 := by decide
  simp only [wf64, Lit.wf, e1, e2, Bool.and_eq_true, decide_eq_true_eq]
  omega
theorem zero_int (w : World) : (zeroValue 3).run Tryd.prog w = .ok (.int .i64 0) w := by
  have h : ∀ w, (zeroValue 3).run Tryd.prog w = .ok (.int .i64 0) w := fun w => by kernel_rfl
  exact h w
/-- How often a frame is had. -/
def timesOf (n : Nat) (T : Nat → Nat) (x : Int) : Nat := if 0 ≤ x ∧ x < n then T x.toNat else 0
theorem FrAt.look_t {w : World} {p bt bw n first low : Nat} {T O : Nat → Nat} {quo : Nat → Int} (h : FrAt w p bt bw n first T O quo low) {x : Int} (wx : wf64 x) :
    (Instr.lookup 29 (.map (some bt)) (.int .i64 x) false).run Tryd.prog w = .ok (.int .i64 (timesOf n T x : Nat)) w := by
  have := (h.tm.look Tryd.underlying3 Tryd.underlying3 Tryd.underlying29 (zero_int w) wx).1
  rw [this]
  congr 2
  unfold tmF timesOf
  by_cases h1 : 0 ≤ x ∧ x < n
  · by_cases h2 : 0 < T x.toNat
    · rw [if_pos ⟨h1.1, h1.2, h2⟩, if_pos h1]; rfl
    · rw [if_neg (fun h => h2 h.2.2), if_pos h1]
      have : T x.toNat = 0 := by omega
      rw [this]; rfl
  · rw [if_neg (fun h => h1 ⟨h.1, h.2.1⟩), if_neg h1]; rfl
theorem FrAt.look_w {w : World} {p bt bw n first low j : Nat} {T O : Nat → Nat} {quo : Nat → Int} (h : FrAt w p bt bw n first T O quo low) (hj : j < n) (hT : 0 < T j) :
    (Instr.lookup 29 (.map (some bw)) (.int .i64 j) false).run Tryd.prog w = .ok (.int .i64 (O j : Nat)) w := by
  obtain ⟨s, g, g1, g2, g3, g4⟩ := h.wh
  have hn := h.n2
  have := (g2.look Tryd.underlying3 Tryd.underlying3 Tryd.underlying29 (zero_int w) (K := (j : Int)) (wf_of (by omega) (by omega))).1
  rw [this, g3 j hj hT]
theorem FrAt.len_t {w : World} {p bt bw n first low : Nat} {T O : Nat → Nat} {quo : Nat → Int} (h : FrAt w p bt bw n first T O quo low) (ty : TypeId) :
    (Builtin.len_ #[29] ty #[.map (some bt)]).run Tryd.prog w = .ok (.int .i64 (heldC n T : Nat)) w := h.tm.len Tryd.underlying29 ty
end Go.Proofs.YtlchlklbjocliaaDoor

/- What the functions of the package frames answer, that change nothing or one number. -/
namespace Go.Proofs.YtlchlklbjocliaaDoor
open Go Go.RowKit
set_option linter.unusedSimpArgs false
set_option linter.unusedVariables false
set_option maxRecDepth 100000
theorem none_ok {w : World} {p bt bw n first low : Nat} {T O : Nat → Nat} {quo : Nat → Int} (h : FrAt w p bt bw n first T O quo low) :
    Calls Tryd.prog 62 #[.pointer (some ⟨p, 0, none⟩)] w fun r w' => r = .returned (.bool false) ∧ w' = w := by
  obtain ⟨c0, c1, c2, c3, c4⟩ := h.row.cells
  have hb := eqlSome bt
  clear h
  go_enter Tryd.func62, Tryd.ntmps62
  go_wp2_with fail
  go_ret
  exact ⟨rfl, rfl⟩
def isOwn (x : Int) : Prop := 0 ≤ x ∧ x < 17
instance (x : Int) : Decidable (isOwn x) := inferInstanceAs (Decidable (_ ∧ _))
theorem isOwner_is (i : Int) (w : World) : Calls Tryd.prog 63 #[.int .i64 i] w fun r w' => r = .returned (.bool (decide (isOwn i))) ∧ w' = w := isOwner_any i w
/-- All are owners, or the first that is none tells. -/
theorem owned_any {w : World} {p bt bw n first low : Nat} {T O : Nat → Nat} {quo : Nat → Int} (h : FrAt w p bt bw n first T O quo low) (b m : Nat) (f : Nat → Int) (hm : m ≤ 9) (hf : ∀ i, i < m → w.cell? ⟨b, i, none⟩ = some (.int .i64 (f i))) :
    Calls Tryd.prog 68 #[.pointer (some ⟨p, 0, none⟩), .slice (some ⟨b, 0, none⟩) m m] w fun r w' => (((∀ i, i < m → isOwn (f i)) ∧ r = .returned (.int .i64 0)) ∨ (∃ i, i < m ∧ ¬ isOwn (f i)) ∧ r = .returned (.int .i64 2)) ∧ w' = w := by
  have hno := none_ok h
  clear h
  go_enter Tryd.func68, Tryd.ntmps68
  go_wp2_with fail
  refine hno.mono ?_
  rintro _ _ ⟨rfl, hw⟩
  rw [hw]
  clear hw hno
  go_wp2_with fail
  go_loopw [11] (fun i wr => ∃ k : Nat, k ≤ m ∧ i = .int .i64 k ∧ (∀ j, j < k → isOwn (f j)) ∧ wr = w) (fun i _ => (m - intOf i).toNat)
  case atStart => exact ⟨0, by omega, rfl, fun j hj => absurd hj (by omega), rfl⟩
  case round =>
    obtain ⟨k, hk, rfl, hall, rfl⟩ := hrel
    by_cases hlt : k < m
    · have c0 := hf k hlt
      have hio := isOwner_is (f k) wr
      by_cases ho : isOwn (f k)
      · rw [decide_eq_true ho] at hio
        have HA : Hid (∀ j, j < k + 1 → isOwn (f j)) := Lib.hid fun j hj => by
          by_cases e : j = k
          · rw [e]; exact ho
          · exact hall j (by omega)
        generalize f k = x at *
        clear hf hall ho
        go_wp2_with fail
        refine hio.mono ?_
        rintro _ _ ⟨rfl, hw⟩
        rw [hw]
        clear hw hio
        go_wp2_with fail
        exact ⟨⟨k + 1, by omega, by simp, HA.out, by trivial⟩, by simp [intOf]; omega⟩
      · rw [decide_eq_false ho] at hio
        have HA : Hid (∃ i, i < m ∧ ¬ isOwn (f i)) := Lib.hid ⟨k, hlt, ho⟩
        generalize f k = x at *
        clear hf hall ho
        go_wp2_with fail
        refine hio.mono ?_
        rintro _ _ ⟨rfl, hw⟩
        rw [hw]
        clear hw hio
        go_wp2_with fail
        go_ret
        exact ⟨Or.inr ⟨HA.out, by trivial⟩, rfl⟩
    · have : m = k := by omega
      subst this
      have HA := Lib.hid hall
      clear hf hall
      go_wp2_with fail
      go_ret
      exact ⟨Or.inl ⟨HA.out, by trivial⟩, rfl⟩
theorem owned_1 {w : World} {p bt bw n first low b : Nat} {T O : Nat → Nat} {quo : Nat → Int} (h : FrAt w p bt bw n first T O quo low) (x : Int) (hx : w.cell? ⟨b, 0, none⟩ = some (.int .i64 x)) :
    Calls Tryd.prog 68 #[.pointer (some ⟨p, 0, none⟩), .slice (some ⟨b, 0, none⟩) 1 1] w fun r w' => r = .returned (.int .i64 (if isOwn x then 0 else 2)) ∧ w' = w := by
  refine (owned_any h b 1 (fun _ => x) (by omega) (fun i hi => by
    obtain rfl : i = 0 := by omega
    exact hx)).mono ?_
  rintro r _ ⟨⟨h1, rfl⟩ | ⟨⟨i, _, h1⟩, rfl⟩, rfl⟩
  · rw [if_pos (h1 0 (by omega))]; exact ⟨rfl, rfl⟩
  · rw [if_neg h1]; exact ⟨rfl, rfl⟩
theorem owned_2 {w : World} {p bt bw n first low b : Nat} {T O : Nat → Nat} {quo : Nat → Int} (h : FrAt w p bt bw n first T O quo low) (x y : Int) (hx : w.cell? ⟨b, 0, none⟩ = some (.int .i64 x)) (hy : w.cell? ⟨b, 1, none⟩ = some (.int .i64 y)) :
    Calls Tryd.prog 68 #[.pointer (some ⟨p, 0, none⟩), .slice (some ⟨b, 0, none⟩) 2 2] w fun r w' => r = .returned (.int .i64 (if isOwn x ∧ isOwn y then 0 else 2)) ∧ w' = w := by
  refine (owned_any h b 2 (fun i => if i = 0 then x else y) (by omega) (fun i hi => by
    have : i = 0 ∨ i = 1 := by omega
    rcases this with rfl | rfl
    · exact hx
    · exact hy)).mono ?_
  rintro r _ ⟨⟨h1, rfl⟩ | ⟨⟨i, hi, h1⟩, rfl⟩, rfl⟩
  · rw [if_pos ⟨h1 0 (by omega), h1 1 (by omega)⟩]; exact ⟨rfl, rfl⟩
  · rw [if_neg (fun hh => h1 (by by_cases e : i = 0 <;> simp [e, hh.1, hh.2]))]; exact ⟨rfl, rfl⟩
def ownI (n : Nat) (T O : Nat → Nat) (x : Int) : Nat := if isOwn x then ownC n T O x.toNat else 0
theorem Count_any {w : World} {p bt bw n first low : Nat} {T O : Nat → Nat} {quo : Nat → Int} (h : FrAt w p bt bw n first T O quo low) (x : Int) :
    Calls Tryd.prog 24 #[.pointer (some ⟨p, 0, none⟩), .int .i64 x] w fun r w' => r = .returned (.tuple #[.int .i64 (ownI n T O x : Nat), .int .i64 ((n : Int) - heldC n T)]) ∧ Grows w w' := by
  have hno := none_ok h
  have hio := isOwner_is x w
  obtain ⟨c0, c1, c2, c3, c4⟩ := h.row.cells
  have l1 := h.row.lt
  have hle : heldC n T ≤ n := cn_le
  have hlen : ∀ ty g, (Builtin.len_ #[29] ty #[.map (some bt)]).run Tryd.prog (w.grow g) = .ok (.int .i64 (heldC n T : Nat)) (w.grow g) := fun ty g => (h.grows (Grows.of w g)).len_t ty
  have hn := h.n2
  unfold ownI
  by_cases ho : isOwn x
  · rw [decide_eq_true ho] at hio
    obtain ⟨o, rfl, ho17⟩ : ∃ o : Nat, x = o ∧ o < 17 := ⟨x.toNat, by unfold isOwn at ho; omega, by unfold isOwn at ho; omega⟩
    rw [if_pos ho, Int.toNat_natCast]
    have co := h.row.own ho17
    generalize ownC n T O o = v at *
    generalize heldC n T = hc at *
    clear h ho
    go_enter Tryd.func24, Tryd.ntmps24
    go_wp2_with fail
    refine hno.mono ?_
    rintro _ _ ⟨rfl, hw⟩
    rw [hw]
    clear hw hno
    go_wp2_with fail
    refine hio.mono ?_
    rintro _ _ ⟨rfl, hw⟩
    rw [hw]
    clear hw hio
    go_wp2_with fail
    refine wp_region_grow (by kernel_rfl) (by kernel_rfl) ?_
    repeat (go_big_quiet_step ((fail)))
    refine wpQuiet_nil ?_
    intro _ hw'
    obtain ⟨gg, rfl⟩ := hw'
    go_wp2_with fail
    go_ret2
    exact ⟨rfl, Grows.of w gg⟩
  · rw [decide_eq_false ho] at hio
    rw [if_neg ho]
    generalize heldC n T = hc at *
    clear h ho
    go_enter Tryd.func24, Tryd.ntmps24
    go_wp2_with fail
    refine hno.mono ?_
    rintro _ _ ⟨rfl, hw⟩
    rw [hw]
    clear hw hno
    go_wp2_with fail
    refine hio.mono ?_
    rintro _ _ ⟨rfl, hw⟩
    rw [hw]
    clear hw hio
    go_wp2_with fail
    refine wp_region_grow (by kernel_rfl) (by kernel_rfl) ?_
    repeat (go_big_quiet_step ((fail)))
    refine wpQuiet_nil ?_
    intro _ hw'
    obtain ⟨gg, rfl⟩ := hw'
    go_wp2_with fail
    go_ret2
    exact ⟨rfl, Grows.of w gg⟩
theorem Quota_bad {w : World} {p bt bw n first low : Nat} {T O : Nat → Nat} {quo : Nat → Int} (h : FrAt w p bt bw n first T O quo low) (x q : Int) (hb : ¬ isOwn x ∨ q < 0) :
    Calls Tryd.prog 43 #[.pointer (some ⟨p, 0, none⟩), .int .i64 x, .int .i64 q] w fun r w' => r = .returned (.int .i64 2) ∧ Grows w w' := by
  have hg : Grows w (w.alloc (Obj.cells #[.int .i64 x] 3)) := (Grows.refl _).alloc _
  have ho := owned_1 (b := w.heap.size) (h.grows hg) x ((Row.new w #[Value.int .i64 x] 3).cell 0)
  by_cases hx : isOwn x
  · have hq : q < 0 := by
      rcases hb with hb | hb
      · exact absurd hx hb
      · exact hb
    rw [if_pos hx] at ho
    clear h hx hb
    go_enter Tryd.func43, Tryd.ntmps43
    go_wp2_with fail
    refine (ho).mono ?_
    rintro _ _ ⟨rfl, hw⟩
    rw [hw]
    clear hw
    go_wp2_with fail
    go_ret
    exact ⟨rfl, hg⟩
  · rw [if_neg hx] at ho
    clear h hx hb
    go_enter Tryd.func43, Tryd.ntmps43
    go_wp2_with fail
    refine (ho).mono ?_
    rintro _ _ ⟨rfl, hw⟩
    rw [hw]
    clear hw
    go_wp2_with fail
    go_ret
    exact ⟨rfl, hg⟩
theorem Quota_ok {w : World} {p bt bw n first low o : Nat} {T O : Nat → Nat} {quo : Nat → Int} (h : FrAt w p bt bw n first T O quo low) (ho17 : o < 17) {q : Int} (hq : 0 ≤ q) :
    Calls Tryd.prog 43 #[.pointer (some ⟨p, 0, none⟩), .int .i64 o, .int .i64 q] w fun r w' => r = .returned (.int .i64 0) ∧ FrAt w' p bt bw n first T O (fun j => if j = o then q else quo j) low ∧ Chg [p] w w' := by
  have hg : Grows w (w.alloc (Obj.cells #[.int .i64 o] 3)) := (Grows.refl _).alloc _
  have ho := owned_1 (b := w.heap.size) (h.grows hg) o ((Row.new w #[Value.int .i64 o] 3).cell 0)
  rw [if_pos (show isOwn (o : Int) from ⟨by omega, by omega⟩)] at ho
  obtain ⟨w1, hw1⟩ : ∃ w1, w1 = w.alloc (Obj.cells #[.int .i64 o] 3) := ⟨_, rfl⟩
  have H1 : Hid (FrAt w1 p bt bw n first T O quo low) := by show FrAt _ _ _ _ _ _ _ _ _ _; rw [hw1]; exact h.grows hg
  have HG : Hid (Grows w w1) := by show Grows _ _; rw [hw1]; exact hg
  rw [← hw1] at ho
  have dq : decide (q < 0) = false := decide_eq_false (by omega)
  obtain ⟨c0, c1, c2, c3, c4⟩ := H1.out.row.cells
  have co := H1.out.row.quo ho17
  have f1 := H1.out.row.frozen (21 + o)
  have HW := Lib.hid hw1
  clear h hg
  go_enter Tryd.func43, Tryd.ntmps43
  go_wp2_with fail
  rw [← hw1]
  clear hw1
  refine (ho).mono ?_
  rintro _ _ ⟨rfl, hw⟩
  rw [hw]
  clear hw
  go_wp2_with fail
  go_ret
  have h2 := H1.out.row.setQuo ho17 q
  have hne := H1.out.ne
  have hc : Chg [p] w1 (w1.setCell ⟨p, 21 + o, none⟩ (.int .i64 q)) := (Chg.refl _ _).setCell (Or.inl (by simp)) _ _
  obtain ⟨s, g, g1, g2, g3⟩ := H1.out.wh
  exact ⟨rfl, ⟨h2, IMap.chg' H1.out.tm hc (by simp; omega), ⟨s, g, g1, IMap.chg' g2 hc (by simp; omega), g3⟩, H1.out.n1, H1.out.n2, H1.out.fl, H1.out.lo, H1.out.below, H1.out.ob, H1.out.tb, hne⟩, (Chg.of_grows HG.out).trans hc⟩
end Go.Proofs.YtlchlklbjocliaaDoor

/- frames: wrong, Owner, Hold. -/
namespace Go.Proofs.YtlchlklbjocliaaDoor
open Go Go.RowKit
set_option linter.unusedSimpArgs false
set_option linter.unusedVariables false
set_option maxRecDepth 100000
theorem timesOf_in {n j : Nat} {T : Nat → Nat} (hj : j < n) : timesOf n T (j : Int) = T j := by unfold timesOf; rw [if_pos (by omega), Int.toNat_natCast]
theorem FrAt.look_tj {w : World} {p bt bw n first low j : Nat} {T O : Nat → Nat} {quo : Nat → Int} (h : FrAt w p bt bw n first T O quo low) (hj : j < n) :
    (Instr.lookup 29 (.map (some bt)) (.int .i64 j) false).run Tryd.prog w = .ok (.int .i64 (T j : Nat)) w := by
  have hn := h.n2
  have := h.look_t (x := (j : Int)) (wf_of (by omega) (by omega))
  rwa [timesOf_in hj] at this
/-- What is wrong with a frame, where e is what is wrong with the owners. -/
def wrE (n : Nat) (T O : Nat → Nat) (x l0 e : Int) : Int := if e ≠ 0 then e else if ¬ (0 ≤ x ∧ x < n) then 2 else if T x.toNat = 0 ∨ (O x.toNat : Int) ≠ l0 then 15 else 0
theorem wrE_zero {n : Nat} {T O : Nat → Nat} {x l0 e : Int} (h : wrE n T O x l0 e = 0) : e = 0 ∧ ∃ j : Nat, x = j ∧ j < n ∧ 0 < T j ∧ (O j : Int) = l0 := by
  unfold wrE at h
  by_cases h1 : e = 0
  · rw [if_neg (by simp [h1])] at h
    by_cases h2 : 0 ≤ x ∧ x < n
    · rw [if_neg (by simp [h2])] at h
      by_cases h3 : T x.toNat = 0 ∨ (O x.toNat : Int) ≠ l0
      · rw [if_pos h3] at h; cases h
      · exact ⟨h1, x.toNat, by omega, by omega, by omega, by omega⟩
    · rw [if_pos h2] at h; cases h
  · rw [if_pos h1] at h; exact absurd h h1
theorem wrong_gen {w : World} {p bt bw n first low b m : Nat} {T O : Nat → Nat} {quo : Nat → Int} (h : FrAt w p bt bw n first T O quo low) (x l0 e : Int) (hm : 1 ≤ m) (hm9 : m ≤ 9)
    (ho : Calls Tryd.prog 68 #[.pointer (some ⟨p, 0, none⟩), .slice (some ⟨b, 0, none⟩) m m] w fun r w' => r = .returned (.int .i64 e) ∧ w' = w) (h0 : w.cell? ⟨b, 0, none⟩ = some (.int .i64 l0)) (lb : b < w.heap.size) :
    Calls Tryd.prog 77 #[.pointer (some ⟨p, 0, none⟩), .int .i64 x, .slice (some ⟨b, 0, none⟩) m m] w fun r w' => r = .returned (.int .i64 (wrE n T O x l0 e)) ∧ Grows w w' := by
  obtain ⟨c0, c1, c2, c3, c4⟩ := h.row.cells
  have lp := h.row.lt
  have hn := h.n2
  by_cases he : e = 0
  · subst he
    by_cases hx0 : x < 0
    · have hE : wrE n T O x l0 0 = 2 := by unfold wrE; rw [if_neg (by simp), if_pos (by omega)]
      rw [hE]
      clear h hE
      go_enter Tryd.func77, Tryd.ntmps77
      go_wp2_with fail
      refine (ho).mono ?_
      rintro _ _ ⟨rfl, hw⟩
      rw [hw]
      clear hw
      go_wp2_with fail
      go_ret
      exact ⟨rfl, Grows.refl _⟩
    have d0 : decide (x < 0) = false := decide_eq_false hx0
    by_cases hxn : (n : Int) ≤ x
    · have hE : wrE n T O x l0 0 = 2 := by unfold wrE; rw [if_neg (by simp), if_pos (by omega)]
      rw [hE]
      have d1 : decide ((n : Int) ≤ x) = true := decide_eq_true hxn
      clear h hE hxn hx0
      go_enter Tryd.func77, Tryd.ntmps77
      go_wp2_with fail
      refine (ho).mono ?_
      rintro _ _ ⟨rfl, hw⟩
      rw [hw]
      clear hw
      go_wp2_with fail
      go_ret
      exact ⟨rfl, Grows.refl _⟩
    obtain ⟨j, rfl, hj⟩ : ∃ j : Nat, x = j ∧ j < n := ⟨x.toNat, by omega, by omega⟩
    have d1 : decide ((n : Int) ≤ (j : Int)) = false := decide_eq_false hxn
    have ht : ∀ g, (Instr.lookup 29 (.map (some bt)) (.int .i64 j) false).run Tryd.prog (w.grow g) = .ok (.int .i64 (T j : Nat)) (w.grow g) := fun g => (h.grows (Grows.of w g)).look_tj hj
    clear hxn hx0
    by_cases hT : T j = 0
    · have hE : wrE n T O j l0 0 = 15 := by unfold wrE; rw [if_neg (by simp), if_neg (by omega), Int.toNat_natCast, if_pos (Or.inl hT)]
      rw [hE]
      rw [hT] at ht
      clear h hE hT
      go_enter Tryd.func77, Tryd.ntmps77
      go_wp2_with fail
      refine (ho).mono ?_
      rintro _ _ ⟨rfl, hw⟩
      rw [hw]
      clear hw
      go_wp2_with fail
      refine wp_region_grow (by kernel_rfl) (by kernel_rfl) ?_
      repeat (go_big_quiet_step ((fail)))
      refine wpQuiet_nil ?_
      intro _ hw'
      obtain ⟨gg, rfl⟩ := hw'
      go_wp2_with fail
      go_ret
      exact ⟨rfl, Grows.of w gg⟩
    · have hw : ∀ g, (Instr.lookup 29 (.map (some bw)) (.int .i64 j) false).run Tryd.prog (w.grow g) = .ok (.int .i64 (O j : Nat)) (w.grow g) := fun g => (h.grows (Grows.of w g)).look_w hj (by omega)
      have hb0 : ((T j : Int) == 0) = false := by simp; omega
      by_cases hO : (O j : Int) = l0
      · have hE : wrE n T O j l0 0 = 0 := by unfold wrE; rw [if_neg (by simp), if_neg (by omega), Int.toNat_natCast, if_neg (by omega)]
        rw [hE]
        have hb1 : ((O j : Int) != l0) = false := by simp; exact hO
        generalize O j = oj at *
        generalize T j = tj at *
        clear h hE hT hO
        go_enter Tryd.func77, Tryd.ntmps77
        go_wp2_with fail
        refine (ho).mono ?_
        rintro _ _ ⟨rfl, hw⟩
        rw [hw]
        clear hw
        go_wp2_with fail
        refine wp_region_grow (by kernel_rfl) (by kernel_rfl) ?_
        repeat (go_big_quiet_step ((fail)))
        refine wpQuiet_nil ?_
        intro _ hw'
        obtain ⟨gg, rfl⟩ := hw'
        go_wp2_with fail
        go_ret
        exact ⟨rfl, Grows.of w gg⟩
      · have hE : wrE n T O j l0 0 = 15 := by unfold wrE; rw [if_neg (by simp), if_neg (by omega), Int.toNat_natCast, if_pos (Or.inr hO)]
        rw [hE]
        have hb1 : ((O j : Int) != l0) = true := by simp; exact hO
        generalize O j = oj at *
        generalize T j = tj at *
        clear h hE hT hO
        go_enter Tryd.func77, Tryd.ntmps77
        go_wp2_with fail
        refine (ho).mono ?_
        rintro _ _ ⟨rfl, hw⟩
        rw [hw]
        clear hw
        go_wp2_with fail
        refine wp_region_grow (by kernel_rfl) (by kernel_rfl) ?_
        repeat (go_big_quiet_step ((fail)))
        refine wpQuiet_nil ?_
        intro _ hw'
        obtain ⟨gg, rfl⟩ := hw'
        go_wp2_with fail
        go_ret
        exact ⟨rfl, Grows.of w gg⟩
  · have hE : wrE n T O x l0 e = e := by unfold wrE; rw [if_pos he]
    rw [hE]
    have hb : (e != 0) = true := by simp; exact he
    clear h hE he
    go_enter Tryd.func77, Tryd.ntmps77
    go_wp2_with fail
    refine (ho).mono ?_
    rintro _ _ ⟨rfl, hw⟩
    rw [hw]
    clear hw
    go_wp2_with fail
    go_ret
    exact ⟨rfl, Grows.refl _⟩
theorem Owner_some {w : World} {p bt bw n first low j : Nat} {T O : Nat → Nat} {quo : Nat → Int} (h : FrAt w p bt bw n first T O quo low) (hj : j < n) (hT : 0 < T j) :
    Calls Tryd.prog 31 #[.pointer (some ⟨p, 0, none⟩), .int .i64 j] w fun r w' => r = .returned (.tuple #[.int .i64 (O j : Nat), .int .i64 (T j : Nat), .bool true]) ∧ Grows w w' := by
  obtain ⟨c0, c1, c2, c3, c4⟩ := h.row.cells
  have lp := h.row.lt
  have hno := none_ok h
  have ht0 := h.look_tj hj
  have ht : ∀ g, (Instr.lookup 29 (.map (some bt)) (.int .i64 j) false).run Tryd.prog (w.grow g) = .ok (.int .i64 (T j : Nat)) (w.grow g) := fun g => (h.grows (Grows.of w g)).look_tj hj
  have hw : ∀ g, (Instr.lookup 29 (.map (some bw)) (.int .i64 j) false).run Tryd.prog (w.grow g) = .ok (.int .i64 (O j : Nat)) (w.grow g) := fun g => (h.grows (Grows.of w g)).look_w hj hT
  have hb0 : ((T j : Int) == 0) = false := by simp; omega
  generalize O j = oj at *
  generalize T j = tj at *
  clear h
  go_enter Tryd.func31, Tryd.ntmps31
  go_wp2_with fail
  refine (hno).mono ?_
  rintro _ _ ⟨rfl, hw⟩
  rw [hw]
  clear hw
  go_wp2_with fail
  refine wp_region_grow (by kernel_rfl) (by kernel_rfl) ?_
  repeat (go_big_quiet_step ((fail)))
  refine wpQuiet_nil ?_
  intro _ hw'
  obtain ⟨gg, rfl⟩ := hw'
  go_wp2_with fail
  go_ret3
  exact ⟨rfl, Grows.of w gg⟩
theorem Owner_none {w : World} {p bt bw n first low : Nat} {T O : Nat → Nat} {quo : Nat → Int} (h : FrAt w p bt bw n first T O quo low) {x : Int} (wx : wf64 x) (hx : timesOf n T x = 0) :
    Calls Tryd.prog 31 #[.pointer (some ⟨p, 0, none⟩), .int .i64 x] w fun r w' => r = .returned (.tuple #[.int .i64 0, .int .i64 0, .bool false]) ∧ Grows w w' := by
  obtain ⟨c0, c1, c2, c3, c4⟩ := h.row.cells
  have hno := none_ok h
  have ht0 := h.look_t wx
  rw [hx] at ht0
  clear h hx wx
  go_enter Tryd.func31, Tryd.ntmps31
  go_wp2_with fail
  refine (hno).mono ?_
  rintro _ _ ⟨rfl, hw⟩
  rw [hw]
  clear hw
  go_wp2_with fail
  go_ret3
  exact ⟨rfl, Grows.refl _⟩
end Go.Proofs.YtlchlklbjocliaaDoor

/- frames: how the counts turn; Hold. -/
namespace Go.Proofs.YtlchlklbjocliaaDoor
open Go Go.RowKit
set_option linter.unusedSimpArgs false
set_option linter.unusedVariables false
set_option maxRecDepth 100000
theorem tmF_at {n j : Nat} {T : Nat → Nat} (hj : j < n) : tmF n T (j : Int) = if 0 < T j then some (T j : Int) else none := by
  unfold tmF
  by_cases h : 0 < T j
  · rw [if_pos ⟨by omega, by omega, by rw [Int.toNat_natCast]; exact h⟩, if_pos h, Int.toNat_natCast]
  · rw [if_neg (fun hh => h (by have := hh.2.2; rwa [Int.toNat_natCast] at this)), if_neg h]
theorem tmF_put {n j v : Nat} {T : Nat → Nat} (hj : j < n) (hv : 0 < v) : tmF n (upF T j v) = imUpd (tmF n T) (j : Int) (v : Int) := by
  funext x
  unfold imUpd
  by_cases hx : x = (j : Int)
  · subst hx
    rw [if_pos rfl, tmF_at hj, upF_same, if_pos hv]
  · rw [if_neg hx]
    unfold tmF
    by_cases h0 : 0 ≤ x
    · have hne : x.toNat ≠ j := by omega
      rw [upF_ne _ _ hne]
    · rw [if_neg (fun h => h0 h.1), if_neg (fun h => h0 h.1)]
theorem tmF_del {n j : Nat} {T : Nat → Nat} (hj : j < n) : tmF n (upF T j 0) = imDel (tmF n T) (j : Int) := by
  funext x
  unfold imDel
  by_cases hx : x = (j : Int)
  · subst hx
    rw [if_pos rfl, tmF_at hj, upF_same]; rfl
  · rw [if_neg hx]
    unfold tmF
    by_cases h0 : 0 ≤ x
    · have hne : x.toNat ≠ j := by omega
      rw [upF_ne _ _ hne]
    · rw [if_neg (fun h => h0 h.1), if_neg (fun h => h0 h.1)]
theorem heldC_same {n j v : Nat} {T : Nat → Nat} (hT : 0 < T j) (hv : 0 < v) : heldC n (upF T j v) = heldC n T :=
  cn_congr fun i _ => by
    by_cases e : i = j
    · rw [e, upF_same]; simp [hT, hv]
    · rw [upF_ne _ _ e]
theorem heldC_new {n j v : Nat} {T : Nat → Nat} (hj : j < n) (hT : T j = 0) (hv : 0 < v) : heldC n (upF T j v) = heldC n T + 1 :=
  cn_add hj (fun i _ e => by rw [upF_ne _ _ e]) (by simp [hT]) (by rw [upF_same]; simp [hv])
theorem heldC_del {n j : Nat} {T : Nat → Nat} (hj : j < n) (hT : 0 < T j) : heldC n T = heldC n (upF T j 0) + 1 :=
  cn_add hj (fun i _ e => by rw [upF_ne _ _ e]) (by rw [upF_same]; rfl) (by simp [hT])
theorem ownC_same {n j v : Nat} {T O : Nat → Nat} (hT : 0 < T j) (hv : 0 < v) : ownC n (upF T j v) O = ownC n T O := by
  funext o
  exact cn_congr fun i _ => by
    by_cases e : i = j
    · rw [e, upF_same]; simp [hT, hv]
    · rw [upF_ne _ _ e]
theorem ownC_new {n j v o : Nat} {T O : Nat → Nat} (hj : j < n) (hT : T j = 0) (hv : 0 < v) : ownC n (upF T j v) (upF O j o) = upF (ownC n T O) o (ownC n T O o + 1) := by
  funext k
  by_cases e : k = o
  · subst e
    rw [upF_same]
    exact cn_add hj (fun i _ e => by rw [upF_ne _ _ e, upF_ne _ _ e]) (by simp [hT]) (by rw [upF_same, upF_same]; simp [hv])
  · rw [upF_ne _ _ e]
    refine cn_congr fun i _ => ?_
    by_cases e2 : i = j
    · subst e2; rw [upF_same, upF_same]; simp [hT]; omega
    · rw [upF_ne _ _ e2, upF_ne _ _ e2]
theorem ownC_del {n j o : Nat} {T O : Nat → Nat} (hj : j < n) (hT : 0 < T j) (hO : O j = o) : ownC n (upF T j 0) O = upF (ownC n T O) o (ownC n T O o - 1) := by
  funext k
  by_cases e : k = o
  · subst e
    rw [upF_same]
    have : ownC n T O k = ownC n (upF T j 0) O k + 1 := cn_add hj (fun i _ e => by rw [upF_ne _ _ e]) (by rw [upF_same]; rfl) (by simp [hT, hO])
    omega
  · rw [upF_ne _ _ e]
    refine cn_congr fun i _ => ?_
    by_cases e2 : i = j
    · subst e2; rw [upF_same]; simp; omega
    · rw [upF_ne _ _ e2]
theorem ownC_del1 {n j o : Nat} {T O : Nat → Nat} (hj : j < n) (hT : 0 < T j) (hO : O j = o) : 1 ≤ ownC n T O o := by
  have : ownC n T O o = ownC n (upF T j 0) O o + 1 := cn_add hj (fun i _ e => by rw [upF_ne _ _ e]) (by rw [upF_same]; rfl) (by simp [hT, hO])
  omega
theorem ownC_le {n o : Nat} {T O : Nat → Nat} : ownC n T O o ≤ n := cn_le
theorem upF_self {f : Nat → Nat} {i v : Nat} (h : f i = v) : upF f i v = f := by
  funext j; unfold upF; split
  · rename_i hj; rw [hj, h]
  · rfl
theorem ownC_move {n j a b : Nat} {T O : Nat → Nat} (hj : j < n) (hT : 0 < T j) (hO : O j = a) : ownC n T (upF O j b) = upF (upF (ownC n T O) a (ownC n T O a - 1)) b (upF (ownC n T O) a (ownC n T O a - 1) b + 1) := by
  have h1 := ownC_del (o := a) (T := T) (O := O) hj hT hO
  have h2 := ownC_new (n := n) (v := T j) (o := b) (T := upF T j 0) (O := O) hj (upF_same _ _ _) hT
  have h3 : upF (upF T j 0) j (T j) = T := by
    funext i; unfold upF
    by_cases e : i = j
    · rw [if_pos e, e]
    · rw [if_neg e, if_neg e]
  rw [h3] at h2
  rw [h2, h1]
theorem Hold_bad {w : World} {p bt bw n first low : Nat} {T O : Nat → Nat} {quo : Nat → Int} (h : FrAt w p bt bw n first T O quo low) (x who : Int) (he : wrE n T O x who (if isOwn who then 0 else 2) ≠ 0) :
    Calls Tryd.prog 41 #[.pointer (some ⟨p, 0, none⟩), .int .i64 x, .int .i64 who] w fun r w' => r = .returned (.int .i64 (wrE n T O x who (if isOwn who then 0 else 2))) ∧ Grows w w' := by
  have hg : Grows w (w.alloc (Obj.cells #[.int .i64 who] 3)) := (Grows.refl _).alloc _
  have hr : Row (w.alloc (Obj.cells #[.int .i64 who] 3)) w.heap.size #[.int .i64 who] 3 := Row.new w _ _
  have ho := wrong_gen (h.grows hg) x who _ (by omega) (by omega) (owned_1 (h.grows hg) who (hr.cell 0)) (hr.cell 0) hr.lt
  generalize wrE n T O x who (if isOwn who then 0 else 2) = e at *
  have hb : (e != 0) = true := by simp; exact he
  clear h he hr
  go_enter Tryd.func41, Tryd.ntmps41
  go_wp2_with fail
  refine ho.mono ?_
  rintro _ w2 ⟨rfl, hg2⟩
  go_wp2_with fail
  go_ret
  exact ⟨rfl, hg.trans hg2⟩
theorem Hold_full {w : World} {p bt bw n first low j o : Nat} {T O : Nat → Nat} {quo : Nat → Int} (h : FrAt w p bt bw n first T O quo low) (hj : j < n) (hT : 65536 ≤ T j) (hO : O j = o) :
    Calls Tryd.prog 41 #[.pointer (some ⟨p, 0, none⟩), .int .i64 j, .int .i64 o] w fun r w' => r = .returned (.int .i64 18) ∧ Grows w w' := by
  have ho17 := h.ob j hj (by omega)
  have hg : Grows w (w.alloc (Obj.cells #[.int .i64 o] 3)) := (Grows.refl _).alloc _
  have hr : Row (w.alloc (Obj.cells #[.int .i64 o] 3)) w.heap.size #[.int .i64 o] 3 := Row.new w _ _
  have ho := wrong_gen (h.grows hg) j o _ (by omega) (by omega) (owned_1 (h.grows hg) o (hr.cell 0)) (hr.cell 0) hr.lt
  have hE : wrE n T O j o (if isOwn (o : Int) then 0 else 2) = 0 := by
    rw [if_pos (show isOwn (o : Int) from ⟨by omega, by omega⟩)]
    unfold wrE; rw [if_neg (by simp), if_neg (by omega), Int.toNat_natCast, if_neg (by omega)]
  rw [hE] at ho
  have HH := Lib.hid h
  have dT : decide ((65536 : Int) ≤ (T j : Int)) = true := decide_eq_true (by omega)
  clear h hr hE
  go_enter Tryd.func41, Tryd.ntmps41
  go_wp2_with fail
  refine ho.mono ?_
  rintro _ w2 ⟨rfl, hg2⟩
  have H2 := Lib.hid (HH.out.grows (hg.trans hg2))
  obtain ⟨c0, c1, c2, c3, c4⟩ := H2.out.row.cells
  have ht := H2.out.look_tj hj
  have HG := Lib.hid (hg.trans hg2)
  generalize T j = tj at *
  clear ho hg hg2
  go_wp2_with fail
  go_ret
  exact ⟨rfl, HG.out⟩
theorem FrAt.wh_chg {w w' : World} {S : List Nat} {bw n first : Nat} {T T' O : Nat → Nat} (hc : Chg S w w') (hb : bw ∉ S) (hl : bw < w.heap.size) (hh : heldC n T' = heldC n T) (hp : ∀ j, j < n → (0 < T' j ↔ 0 < T j))
    (h : ∃ s g, s ≤ heldC n T ∧ IMap Tryd.prog 3 3 w bw s g ∧ (∀ j, j < n → 0 < T j → (g j).getD 0 = O j) ∧ (∀ j : Nat, first ≤ j → j < n → 0 < T j → (g j).isSome) ∧ (∀ x : Int, ¬ (0 ≤ x ∧ x < n ∧ 0 < T x.toNat) → g x = none)) :
    ∃ s g, s ≤ heldC n T' ∧ IMap Tryd.prog 3 3 w' bw s g ∧ (∀ j, j < n → 0 < T' j → (g j).getD 0 = O j) ∧ (∀ j : Nat, first ≤ j → j < n → 0 < T' j → (g j).isSome) ∧ (∀ x : Int, ¬ (0 ≤ x ∧ x < n ∧ 0 < T' x.toNat) → g x = none) := by
  obtain ⟨s, g, g1, g2, g3, g4, g5⟩ := h
  refine ⟨s, g, by omega, g2.of_block (hc.get hl hb), fun j hj ht => g3 j hj ((hp j hj).1 ht), fun j hf hj ht => g4 j hf hj ((hp j hj).1 ht), fun x hx => g5 x (fun hh => hx ⟨hh.1, hh.2.1, (hp _ (by omega)).2 hh.2.2⟩)⟩
theorem Chg.of_grown {w w' : World} {b : Nat} (h : w.grownBy w' (some b)) : Chg [b] w w' := Chg.grownBy (Chg.refl _ _) h (fun k hk => Or.inl (by injection hk with hk; simp [hk]))
theorem Hold_ok {w : World} {p bt bw n first low j o : Nat} {T O : Nat → Nat} {quo : Nat → Int} (h : FrAt w p bt bw n first T O quo low) (hj : j < n) (hT : T j < 65536) (hT0 : 0 < T j) (hO : O j = o) :
    Calls Tryd.prog 41 #[.pointer (some ⟨p, 0, none⟩), .int .i64 j, .int .i64 o] w fun r w' => r = .returned (.int .i64 0) ∧ FrAt w' p bt bw n first (upF T j (T j + 1)) O quo low ∧ Chg [p, bt, bw] w w' := by
  have ho17 := h.ob j hj (by omega)
  have hg : Grows w (w.alloc (Obj.cells #[.int .i64 o] 3)) := (Grows.refl _).alloc _
  have hr : Row (w.alloc (Obj.cells #[.int .i64 o] 3)) w.heap.size #[.int .i64 o] 3 := Row.new w _ _
  have ho := wrong_gen (h.grows hg) j o _ (by omega) (by omega) (owned_1 (h.grows hg) o (hr.cell 0)) (hr.cell 0) hr.lt
  have hE : wrE n T O j o (if isOwn (o : Int) then 0 else 2) = 0 := by
    rw [if_pos (show isOwn (o : Int) from ⟨by omega, by omega⟩)]
    unfold wrE; rw [if_neg (by simp), if_neg (by omega), Int.toNat_natCast, if_neg (by omega)]
  rw [hE] at ho
  have HH := Lib.hid h
  have dT : decide ((65536 : Int) ≤ (T j : Int)) = false := decide_eq_false (by omega)
  have hn2 := h.n2
  clear h hr hE
  go_enter Tryd.func41, Tryd.ntmps41
  go_wp2_with fail
  refine ho.mono ?_
  rintro _ w2 ⟨rfl, hg2⟩
  have H2 := Lib.hid (HH.out.grows (hg.trans hg2))
  have HG := Lib.hid (hg.trans hg2)
  obtain ⟨c0, c1, c2, c3, c4⟩ := H2.out.row.cells
  have ht := H2.out.look_tj hj
  obtain ⟨w3, hrun, hI, hgr⟩ := H2.out.tm.update Tryd.underlying3 Tryd.underlying3 Tryd.underlying29 (by have : heldC n T ≤ n := cn_le; unfold maxLen; omega) (K := (j : Int)) (V := ((T j + 1 : Nat) : Int)) (wf_of (by omega) (by omega)) (wf_of (by omega) (by omega))
  have hw1 : IntKind.i64.wrap ((T j : Int) + 1) = ((T j + 1 : Nat) : Int) := by rw [IntKind.wrap_i64]; omega
  have e1 : ((T j + 1 : Nat) : Int) = (T j : Int) + 1 := by omega
  rw [e1] at hrun
  have HI := Lib.hid hI
  have HGR := Lib.hid hgr
  have HT := Lib.hid hT0
  have HTL := Lib.hid hT
  have HJ := Lib.hid hj
  clear ho hg hg2 hI hgr e1 hw1
  obtain ⟨tj, htj⟩ : ∃ tj, tj = T j := ⟨_, rfl⟩
  rw [← htj] at ht hrun dT hT
  have HTJ := Lib.hid htj
  clear htj hT0
  go_wp2_with fail
  go_ret
  have hc := Chg.of_grown HGR.out
  have hne := H2.out.ne
  have h1 := HI.out
  rw [tmF_at hj, if_pos HT.out] at h1
  have h2 : IMap Tryd.prog 3 3 w3 bt (heldC n (upF T j (T j + 1))) (tmF n (upF T j (T j + 1))) := by
    rw [heldC_same HT.out (by omega), tmF_put hj (by omega)]; exact h1
  refine ⟨rfl, ⟨by rw [ownC_same HT.out (by omega)]; exact H2.out.row.chg hc (by simp; omega), h2, ?_, H2.out.n1, H2.out.n2, H2.out.fl, H2.out.lo, fun i hi => ?_, fun i hi ht => ?_, fun i hi => ?_, hne⟩, (Chg.of_grows HG.out).trans (hc.weaken (by simp))⟩
  · obtain ⟨s, g, _, g2, _⟩ := H2.out.wh
    refine FrAt.wh_chg hc (by simp; omega) g2.lt (heldC_same HT.out (by omega)) (fun i hi => ?_) H2.out.wh
    by_cases e : i = j
    · rw [e, upF_same]; have := HT.out; omega
    · rw [upF_ne _ _ e]
  · by_cases e : i = j
    · rw [e, upF_same]; omega
    · rw [upF_ne _ _ e]; exact H2.out.below i hi
  · by_cases e : i = j
    · rw [e]; exact H2.out.ob j hj HT.out
    · rw [upF_ne _ _ e] at ht; exact H2.out.ob i hi ht
  · by_cases e : i = j
    · rw [e, upF_same]; have := HTL.out; omega
    · rw [upF_ne _ _ e]; exact H2.out.tb i hi
end Go.Proofs.YtlchlklbjocliaaDoor

/- frames: Free. -/
namespace Go.Proofs.YtlchlklbjocliaaDoor
open Go Go.RowKit
set_option linter.unusedSimpArgs false
set_option linter.unusedVariables false
set_option maxRecDepth 100000
theorem wrE_ok {n j o : Nat} {T O : Nat → Nat} (hj : j < n) (hT : 0 < T j) (hO : O j = o) (ho : o < 17) : wrE n T O j o (if isOwn (o : Int) then 0 else 2) = 0 := by
  rw [if_pos (show isOwn (o : Int) from ⟨by omega, by omega⟩)]
  unfold wrE; rw [if_neg (by simp), if_neg (by omega), Int.toNat_natCast, if_neg (by omega)]
theorem Free_bad {w : World} {p bt bw n first low : Nat} {T O : Nat → Nat} {quo : Nat → Int} (h : FrAt w p bt bw n first T O quo low) (x who : Int) (he : wrE n T O x who (if isOwn who then 0 else 2) ≠ 0) :
    Calls Tryd.prog 42 #[.pointer (some ⟨p, 0, none⟩), .int .i64 x, .int .i64 who] w fun r w' => r = .returned (.tuple #[.bool false, .int .i64 (wrE n T O x who (if isOwn who then 0 else 2))]) ∧ Grows w w' := by
  have hg : Grows w (w.alloc (Obj.cells #[.int .i64 who] 3)) := (Grows.refl _).alloc _
  have hr : Row (w.alloc (Obj.cells #[.int .i64 who] 3)) w.heap.size #[.int .i64 who] 3 := Row.new w _ _
  have ho := wrong_gen (h.grows hg) x who _ (by omega) (by omega) (owned_1 (h.grows hg) who (hr.cell 0)) (hr.cell 0) hr.lt
  generalize wrE n T O x who (if isOwn who then 0 else 2) = e at *
  have hb : (e != 0) = true := by simp; exact he
  clear h he hr
  go_enter Tryd.func42, Tryd.ntmps42
  go_wp2_with fail
  refine ho.mono ?_
  rintro _ w2 ⟨rfl, hg2⟩
  go_wp2_with fail
  go_ret2
  exact ⟨rfl, hg.trans hg2⟩
theorem Free_first {w : World} {p bt bw n first low j o : Nat} {T O : Nat → Nat} {quo : Nat → Int} (h : FrAt w p bt bw n first T O quo low) (hj : j < n) (hT : 0 < T j) (hO : O j = o) (hf : j < first) :
    Calls Tryd.prog 42 #[.pointer (some ⟨p, 0, none⟩), .int .i64 j, .int .i64 o] w fun r w' => r = .returned (.tuple #[.bool false, .int .i64 21]) ∧ Grows w w' := by
  have ho17 := h.ob j hj (by omega)
  have hg : Grows w (w.alloc (Obj.cells #[.int .i64 o] 3)) := (Grows.refl _).alloc _
  have hr : Row (w.alloc (Obj.cells #[.int .i64 o] 3)) w.heap.size #[.int .i64 o] 3 := Row.new w _ _
  have ho := wrong_gen (h.grows hg) j o _ (by omega) (by omega) (owned_1 (h.grows hg) o (hr.cell 0)) (hr.cell 0) hr.lt
  rw [wrE_ok hj hT hO (by omega)] at ho
  have HH := Lib.hid h
  clear h hr
  go_enter Tryd.func42, Tryd.ntmps42
  go_wp2_with fail
  refine ho.mono ?_
  rintro _ w2 ⟨rfl, hg2⟩
  have H2 := Lib.hid (HH.out.grows (hg.trans hg2))
  obtain ⟨c0, c1, c2, c3, c4⟩ := H2.out.row.cells
  have HG := Lib.hid (hg.trans hg2)
  clear ho hg hg2
  go_wp2_with fail
  go_ret2
  exact ⟨rfl, HG.out⟩
theorem Free_more {w : World} {p bt bw n first low j o : Nat} {T O : Nat → Nat} {quo : Nat → Int} (h : FrAt w p bt bw n first T O quo low) (hj : j < n) (hT : 1 < T j) (hO : O j = o) (hf : first ≤ j) :
    Calls Tryd.prog 42 #[.pointer (some ⟨p, 0, none⟩), .int .i64 j, .int .i64 o] w fun r w' => r = .returned (.tuple #[.bool false, .int .i64 0]) ∧ FrAt w' p bt bw n first (upF T j (T j - 1)) O quo low ∧ Chg [p, bt, bw] w w' := by
  have ho17 := h.ob j hj (by omega)
  have hg : Grows w (w.alloc (Obj.cells #[.int .i64 o] 3)) := (Grows.refl _).alloc _
  have hr : Row (w.alloc (Obj.cells #[.int .i64 o] 3)) w.heap.size #[.int .i64 o] 3 := Row.new w _ _
  have ho := wrong_gen (h.grows hg) j o _ (by omega) (by omega) (owned_1 (h.grows hg) o (hr.cell 0)) (hr.cell 0) hr.lt
  rw [wrE_ok hj (by omega) hO (by omega)] at ho
  have HH := Lib.hid h
  have hn2 := h.n2
  have htb := h.tb j hj
  have dF : decide ((j : Int) < (first : Int)) = false := decide_eq_false (by omega)
  clear h hr
  go_enter Tryd.func42, Tryd.ntmps42
  go_wp2_with fail
  refine ho.mono ?_
  rintro _ w2 ⟨rfl, hg2⟩
  have H2 := Lib.hid (HH.out.grows (hg.trans hg2))
  have HG := Lib.hid (hg.trans hg2)
  obtain ⟨c0, c1, c2, c3, c4⟩ := H2.out.row.cells
  have l1 := H2.out.row.lt
  have ht := H2.out.look_tj hj
  obtain ⟨w3, hrun, hI, hgr⟩ := H2.out.tm.update Tryd.underlying3 Tryd.underlying3 Tryd.underlying29 (by have : heldC n T ≤ n := cn_le; unfold maxLen; omega) (K := (j : Int)) (V := ((T j - 1 : Nat) : Int)) (wf_of (by omega) (by omega)) (wf_of (by omega) (by omega))
  have e1 : ((T j - 1 : Nat) : Int) = (T j : Int) - 1 := by omega
  have hne := H2.out.ne
  have hc := Chg.of_grown hgr
  rw [tmF_at hj, if_pos (show 0 < T j by omega)] at hI
  have h2 : IMap Tryd.prog 3 3 w3 bt (heldC n (upF T j (T j - 1))) (tmF n (upF T j (T j - 1))) := by
    rw [heldC_same (by omega) (by omega), tmF_put hj (by omega)]; exact hI
  have H3 : Hid (FrAt w3 p bt bw n first (upF T j (T j - 1)) O quo low) := by
    refine ⟨by rw [ownC_same (by omega) (by omega)]; exact H2.out.row.chg hc (by simp; omega), h2, ?_, H2.out.n1, H2.out.n2, H2.out.fl, H2.out.lo, fun i hi => ?_, fun i hi ht => ?_, fun i hi => ?_, hne⟩
    · obtain ⟨s, g, _, g2, _⟩ := H2.out.wh
      refine FrAt.wh_chg hc (by simp; omega) g2.lt (heldC_same (by omega) (by omega)) (fun i hi => ?_) H2.out.wh
      by_cases e : i = j
      · rw [e, upF_same]; omega
      · rw [upF_ne _ _ e]
    · by_cases e : i = j
      · rw [e, upF_same]; omega
      · rw [upF_ne _ _ e]; exact H2.out.below i hi
    · by_cases e : i = j
      · rw [e]; exact H2.out.ob j hj (by omega)
      · rw [upF_ne _ _ e] at ht; exact H2.out.ob i hi ht
    · by_cases e : i = j
      · rw [e, upF_same]; have := H2.out.tb j hj; omega
      · rw [upF_ne _ _ e]; exact H2.out.tb i hi
  have HC := Lib.hid hc
  obtain ⟨d0, d1, d2, d3, d4⟩ := H3.out.row.cells
  have hl3 := H3.out.look_tj hj
  rw [upF_same, e1] at hl3
  rw [e1] at hrun
  have dT : decide ((0 : Int) < (T j : Int) - 1) = true := decide_eq_true (by omega)
  have dw : IntKind.i64.wrap ((T j : Int) - 1) = (T j : Int) - 1 := by rw [IntKind.wrap_i64]; omega
  obtain ⟨tj, htj⟩ : ∃ tj, tj = T j := ⟨_, rfl⟩
  rw [← htj] at ht hl3 hrun hT dw
  clear ho hg hg2 hI hgr e1 h2 hc hne htj htb dT
  go_wp2_with fail
  go_ret2
  exact ⟨rfl, H3.out, (Chg.of_grows HG.out).trans (HC.out.weaken (by simp))⟩
theorem free_chg {w w5 Z : World} {p bt bw a b : Nat} {u v : Value} (hc : Chg [p, bt, bw] w w5) (hz : Grows w5 Z) : Chg [p, bt, bw] w ((Z.setCell ⟨p, a, none⟩ u).setCell ⟨p, b, none⟩ v) :=
  ((hc.grows hz).setCell (Or.inl (by simp)) _ _).setCell (Or.inl (by simp)) _ _
theorem free_end {w2 w5 Z : World} {p bt bw n first low j a b low' : Nat} {T O own' : Nat → Nat} {quo : Nat → Int} {u v : Value} (h : FrAt w2 p bt bw n first T O quo low) (hown : ownC n (upF T j 0) O = own')
    (h5 : IMap Tryd.prog 3 3 w5 bt (heldC n (upF T j 0)) (tmF n (upF T j 0)))
    (hw : ∃ s g, s ≤ heldC n (upF T j 0) ∧ IMap Tryd.prog 3 3 w5 bw s g ∧ (∀ i, i < n → 0 < upF T j 0 i → (g i).getD 0 = O i) ∧ (∀ i : Nat, first ≤ i → i < n → 0 < upF T j 0 i → (g i).isSome) ∧ (∀ x : Int, ¬ (0 ≤ x ∧ x < n ∧ 0 < upF T j 0 x.toNat) → g x = none))
    (hz : Grows w5 Z) (hr : FrRow ((Z.setCell ⟨p, a, none⟩ u).setCell ⟨p, b, none⟩ v) p bt bw n first own' quo low') (hl : low' ≤ low) (hf : first ≤ j) (hfl : first ≤ low') (hlj : low' ≤ j) (hj : j < n) (hne : p ≠ bt ∧ p ≠ bw ∧ bt ≠ bw) :
    FrAt ((Z.setCell ⟨p, a, none⟩ u).setCell ⟨p, b, none⟩ v) p bt bw n first (upF T j 0) O quo low' := by
  have hc : Chg [p] w5 ((Z.setCell ⟨p, a, none⟩ u).setCell ⟨p, b, none⟩ v) := ((Chg.of_grows hz).setCell (Or.inl (by simp)) _ _).setCell (Or.inl (by simp)) _ _
  obtain ⟨s, g, g0, g1, g2⟩ := hw
  have hlo := h.lo
  refine ⟨by rw [hown]; exact hr, IMap.chg' h5 hc (by simp; omega), ⟨s, g, g0, IMap.chg' g1 hc (by simp; omega), g2⟩, h.n1, h.n2, hfl, by omega, fun i hi => ?_, fun i hi ht => ?_, fun i hi => ?_, hne⟩
  · rw [upF_ne _ _ (by omega)]; exact h.below i (by omega)
  · by_cases e : i = j
    · rw [e, upF_same] at ht; omega
    · rw [upF_ne _ _ e] at ht; exact h.ob i hi ht
  · by_cases e : i = j
    · rw [e, upF_same]; omega
    · rw [upF_ne _ _ e]; exact h.tb i hi
set_option maxRecDepth 100000 in
theorem Free_last {w : World} {p bt bw n first low j o : Nat} {T O : Nat → Nat} {quo : Nat → Int} (h : FrAt w p bt bw n first T O quo low) (hj : j < n) (hT : T j = 1) (hO : O j = o) (hf : first ≤ j) :
    Calls Tryd.prog 42 #[.pointer (some ⟨p, 0, none⟩), .int .i64 j, .int .i64 o] w fun r w' => r = .returned (.tuple #[.bool true, .int .i64 0]) ∧ FrAt w' p bt bw n first (upF T j 0) O quo (min low j) ∧ Chg [p, bt, bw] w w' := by
  have ho17 := h.ob j hj (by omega)
  rw [hO] at ho17
  have hg : Grows w (w.alloc (Obj.cells #[.int .i64 o] 3)) := (Grows.refl _).alloc _
  have hr : Row (w.alloc (Obj.cells #[.int .i64 o] 3)) w.heap.size #[.int .i64 o] 3 := Row.new w _ _
  have ho := wrong_gen (h.grows hg) j o _ (by omega) (by omega) (owned_1 (h.grows hg) o (hr.cell 0)) (hr.cell 0) hr.lt
  rw [wrE_ok hj (by omega) hO (by omega)] at ho
  have HH := Lib.hid h
  have hn2 := h.n2
  have dF : decide ((j : Int) < (first : Int)) = false := decide_eq_false (by omega)
  clear h hr
  go_enter Tryd.func42, Tryd.ntmps42
  go_wp2_with fail
  refine ho.mono ?_
  rintro _ w2 ⟨rfl, hg2⟩
  have H2 := Lib.hid (HH.out.grows (hg.trans hg2))
  have HG := Lib.hid (hg.trans hg2)
  obtain ⟨c0, c1, c2, c3, c4⟩ := H2.out.row.cells
  have l1 := H2.out.row.lt
  have ht := H2.out.look_tj hj
  rw [hT] at ht
  have wj : wf64 (j : Int) := wf_of (by omega) (by omega)
  obtain ⟨w3, hrun, hI, hgr⟩ := H2.out.tm.update Tryd.underlying3 Tryd.underlying3 Tryd.underlying29 (by have : heldC n T ≤ n := cn_le; unfold maxLen; omega) (K := (j : Int)) (V := 0) wj (wf_of (by omega) (by omega))
  have hne := H2.out.ne
  have hc3 := Chg.of_grown hgr
  rw [tmF_at hj, if_pos (show 0 < T j by omega)] at hI
  obtain ⟨hl3, _⟩ := hI.look Tryd.underlying3 Tryd.underlying3 Tryd.underlying29 (zero_int w3) wj
  rw [show (imUpd (tmF n T) (j : Int) 0 (j : Int)).getD 0 = 0 by unfold imUpd; rw [if_pos rfl]; rfl] at hl3
  obtain ⟨w4, hdel, hI4, hgr4⟩ := hI.del Tryd.underlying3 Tryd.underlying29 wj 0
  have hc4 := Chg.of_grown hgr4
  obtain ⟨s, g, gs, gI, g1, g2, g3⟩ := H2.out.wh
  have gI4 := IMap.chg' (IMap.chg' gI hc3 (by simp; omega)) hc4 (by simp; omega)
  obtain ⟨w5, hdel5, hI5, hgr5⟩ := gI4.del Tryd.underlying3 Tryd.underlying29 wj 0
  have hc5 := Chg.of_grown hgr5
  have r3 := H2.out.row.chg hc3 (by simp; omega)
  have r4 := r3.chg hc4 (by simp; omega)
  have r5 := r4.chg hc5 (by simp; omega)
  have d2 := r3.cells.2.2.1
  have f3 := r4.cells.2.2.2.1
  have l5 := r5.lt
  have H5 : Hid (IMap Tryd.prog 3 3 w5 bt (heldC n (upF T j 0)) (tmF n (upF T j 0))) := by
    have h5 := IMap.chg' hI4 hc5 (by simp; omega)
    have e1 : (tmF n T (j : Int)).isSome = true := by rw [tmF_at hj, if_pos (show 0 < T j by omega)]; rfl
    have e2 : (imUpd (tmF n T) (j : Int) 0 (j : Int)).isSome = true := by unfold imUpd; rw [if_pos rfl]; rfl
    rw [if_pos e2] at h5
    have e3 : imDel (imUpd (tmF n T) (j : Int) 0) (j : Int) = tmF n (upF T j 0) := by
      rw [tmF_del hj]
      funext x; unfold imDel imUpd
      by_cases hx : x = (j : Int)
      · rw [if_pos hx, if_pos hx]
      · rw [if_neg hx, if_neg hx, if_neg hx]
    rw [e3] at h5
    have e4 := heldC_del hj (show 0 < T j by omega)
    simp only [Option.isSome_some, if_true] at h5
    rw [e4, Nat.add_sub_cancel] at h5
    exact h5
  have HW5 : Hid (∃ s g, s ≤ heldC n (upF T j 0) ∧ IMap Tryd.prog 3 3 w5 bw s g ∧ (∀ i, i < n → 0 < upF T j 0 i → (g i).getD 0 = O i) ∧ (∀ i : Nat, first ≤ i → i < n → 0 < upF T j 0 i → (g i).isSome) ∧ (∀ x : Int, ¬ (0 ≤ x ∧ x < n ∧ 0 < upF T j 0 x.toNat) → g x = none)) := by
    have e4 := heldC_del hj (show 0 < T j by omega)
    refine ⟨_, imDel g (j : Int), ?_, hI5, fun i hi ht => ?_, fun i hfi hi ht => ?_, fun x hx => ?_⟩
    · rw [if_pos (g2 j hf hj (by omega))]; omega
    · have e : i ≠ j := fun e => by rw [e, upF_same] at ht; omega
      rw [upF_ne _ _ e] at ht
      unfold imDel
      rw [if_neg (by omega)]
      exact g1 i hi ht
    · have e : i ≠ j := fun e => by rw [e, upF_same] at ht; omega
      rw [upF_ne _ _ e] at ht
      unfold imDel
      rw [if_neg (by omega)]
      exact g2 i hfi hi ht
    · unfold imDel
      by_cases e : x = (j : Int)
      · rw [if_pos e]
      · rw [if_neg e]
        refine g3 x (fun hh => hx ⟨hh.1, hh.2.1, ?_⟩)
        rw [upF_ne _ _ (by omega)]
        exact hh.2.2
  have HC5 : Hid (Chg [p, bt, bw] w w5) := Lib.hid ((((Chg.of_grows HG.out).trans (hc3.weaken (by simp))).trans (hc4.weaken (by simp))).trans (hc5.weaken (by simp)))
  have R5 := Lib.hid r5
  have hown1 := ownC_del1 (o := o) hj (show 0 < T j by omega) hO
  have hownle : ownC n T O o ≤ n := ownC_le
  have hfl2 := H2.out.fl
  have HOWN := Lib.hid (ownC_del (o := o) hj (show 0 < T j by omega) hO)
  clear ho hg hg2 hI hgr hI4 hgr4 gI gI4 hI5 hgr5 g1 g2 g3 gs r3 r4 r5 hc3 hc4 hc5
  go_wp2_with fail
  obtain ⟨Z, hV⟩ : ∃ V, V = World.drew w5 := ⟨_, rfl⟩
  have hZ : Grows w5 Z := by rw [hV]; exact (Grows.refl _).drew
  refine wp_region_still_tail 10 (by kernel_rfl) (by kernel_rfl) ?_
  simp only [List.take_succ_cons, List.take_zero, List.drop_succ_cons, List.drop_zero]
  change wpStill _ _ (World.drew w5) _ _ _
  rw [← hV]
  have HZ := Lib.hid hV
  clear hV
  have RZ := Lib.hid (FrRow.chg (S := []) R5.out (Chg.of_grows hZ) (by simp))
  have co := RZ.out.own ho17
  have fo := RZ.out.frozen (4 + o)
  have lz := RZ.out.lt
  have dw : IntKind.i64.wrap ((ownC n T O o : Int) - 1) = ((ownC n T O o - 1 : Nat) : Int) := by rw [IntKind.wrap_i64]; omega
  have R6 := Lib.hid (RZ.out.setOwn ho17 (ownC n T O o - 1))
  have GZ := Lib.hid hZ
  have i1 : (o : Int) < 17 := by omega
  have i2 : (0 : Int) ≤ (o : Int) := by omega
  have cl := R6.out.cells.2.2.2.2
  have fl := R6.out.frozen 38
  generalize ownC n T O o - 1 = ov' at *
  generalize ownC n T O o = ov at *
  clear hZ hT d2 f3 hdel hdel5 hrun hl3 ht
  repeat still_step
  refine wpStill_nil ?_
  change wpList _ _ _ _ _ (World.drew w5)
  rw [← (HZ).out]
  go_wp2_with fail
  all_goals
    go_ret2
    first
    | (have hv : min low j = low := by omega
       rw [hv]
       exact ⟨rfl, free_end H2.out HOWN.out H5.out HW5.out GZ.out (R6.out.setLow low) (by omega) hf (by omega) (by omega) (by omega) hne, free_chg HC5.out GZ.out⟩)
    | (have hv : min low j = j := by omega
       rw [hv]
       exact ⟨rfl, free_end H2.out HOWN.out H5.out HW5.out GZ.out (R6.out.setLow j) (by omega) hf (by omega) (by omega) (by omega) hne, free_chg HC5.out GZ.out⟩)
end Go.Proofs.YtlchlklbjocliaaDoor

/- frames: Move. -/
namespace Go.Proofs.YtlchlklbjocliaaDoor
open Go Go.RowKit
set_option linter.unusedSimpArgs false
set_option linter.unusedVariables false
set_option maxRecDepth 100000
theorem wrE_ok2 {n j o a : Nat} {T O : Nat → Nat} (hj : j < n) (hT : 0 < T j) (hO : O j = o) (ho : o < 17) (ha : a < 17) : wrE n T O j o (if isOwn (o : Int) ∧ isOwn (a : Int) then 0 else 2) = 0 := by
  rw [if_pos (show isOwn (o : Int) ∧ isOwn (a : Int) from ⟨⟨by omega, by omega⟩, ⟨by omega, by omega⟩⟩)]
  unfold wrE; rw [if_neg (by simp), if_neg (by omega), Int.toNat_natCast, if_neg (by omega)]
end Go.Proofs.YtlchlklbjocliaaDoor

/- frames: Alloc. -/
namespace Go.Proofs.YtlchlklbjocliaaDoor
open Go Go.RowKit
set_option linter.unusedSimpArgs false
set_option linter.unusedVariables false
set_option maxRecDepth 100000
def lowOf (w : World) (p : Nat) : Int := intOf ((w.cell? ⟨p, 38, none⟩).getD undef)
theorem FrAt.setLow {w : World} {p bt bw n first low low' : Nat} {T O : Nat → Nat} {quo : Nat → Int} (h : FrAt w p bt bw n first T O quo low) (hl : low' ≤ n) (hf : first ≤ low') (hb : ∀ i, i < low' → 0 < T i) : FrAt (w.setCell ⟨p, 38, none⟩ (.int .i64 (low' : Nat))) p bt bw n first T O quo low' := by
  have hc : Chg [p] w (w.setCell ⟨p, 38, none⟩ (.int .i64 (low' : Nat))) := (Chg.refl _ _).setCell (Or.inl (by simp)) _ _
  have hne := h.ne
  obtain ⟨s, g, g0, g1, g2⟩ := h.wh
  exact ⟨h.row.setLow low', IMap.chg' h.tm hc (by simp; omega), ⟨s, g, g0, IMap.chg' g1 hc (by simp; omega), g2⟩, h.n1, h.n2, hf, hl, hb, h.ob, h.tb, hne⟩
theorem lowOf_at {w : World} {p bt bw n first low : Nat} {T O : Nat → Nat} {quo : Nat → Int} (h : FrAt w p bt bw n first T O quo low) : lowOf w p = low := by
  unfold lowOf; rw [h.row.cells.2.2.2.2]; rfl
theorem Alloc_bad {w : World} {p bt bw n first low : Nat} {T O : Nat → Nat} {quo : Nat → Int} (h : FrAt w p bt bw n first T O quo low) {who : Int} (hw : ¬ isOwn who) :
    Calls Tryd.prog 29 #[.pointer (some ⟨p, 0, none⟩), .int .i64 who] w fun r w' => r = .returned (.tuple #[.int .i64 0, .int .i64 2]) ∧ Grows w w' := by
  have hg : Grows w (w.alloc (Obj.cells #[.int .i64 who] 3)) := (Grows.refl _).alloc _
  have hr : Row (w.alloc (Obj.cells #[.int .i64 who] 3)) w.heap.size #[.int .i64 who] 3 := Row.new w _ _
  have ho := owned_1 (h.grows hg) who (hr.cell 0)
  rw [if_neg hw] at ho
  clear h hr hw
  go_enter Tryd.func29, Tryd.ntmps29
  go_wp2_with fail
  refine (ho).mono ?_
  rintro _ _ ⟨rfl, hw⟩
  rw [hw]
  clear hw
  go_wp2_with fail
  go_ret2
  exact ⟨rfl, hg⟩
theorem Alloc_quota {w : World} {p bt bw n first low o : Nat} {T O : Nat → Nat} {quo : Nat → Int} (h : FrAt w p bt bw n first T O quo low) (ho17 : o < 17) (hq : quo o ≤ ownC n T O o) :
    Calls Tryd.prog 29 #[.pointer (some ⟨p, 0, none⟩), .int .i64 o] w fun r w' => r = .returned (.tuple #[.int .i64 0, .int .i64 19]) ∧ Grows w w' := by
  have hg : Grows w (w.alloc (Obj.cells #[.int .i64 (o : Int)] 3)) := (Grows.refl _).alloc _
  have hr : Row (w.alloc (Obj.cells #[.int .i64 (o : Int)] 3)) w.heap.size #[.int .i64 (o : Int)] 3 := Row.new w _ _
  have ho := owned_1 (h.grows hg) (o : Int) (hr.cell 0)
  rw [if_pos (show isOwn (o : Int) from ⟨by omega, by omega⟩)] at ho
  obtain ⟨w1, hw1⟩ : ∃ w1, w1 = w.alloc (Obj.cells #[.int .i64 (o : Int)] 3) := ⟨_, rfl⟩
  have HG : Hid (Grows w w1) := by show Grows _ _; rw [hw1]; exact hg
  have H1 : Hid (FrAt w1 p bt bw n first T O quo low) := h.grows HG.out
  rw [← hw1] at ho
  clear h hr hg
  go_enter Tryd.func29, Tryd.ntmps29
  go_wp2_with fail
  rw [← hw1]
  clear hw1
  obtain ⟨c0, c1, c2, c3, c4⟩ := H1.out.row.cells
  have l1 := H1.out.row.lt
  have co := H1.out.row.own ho17
  have cq := H1.out.row.quo ho17
  have i1 : (o : Int) < 17 := by omega
  have i2 : (0 : Int) ≤ (o : Int) := by omega
  refine (ho).mono ?_
  rintro _ _ ⟨rfl, hw⟩
  rw [hw]
  clear hw
  go_wp2_with fail
  generalize ownC n T O o = ov at *
  generalize quo o = qv at *
  refine wp_region_grow (by kernel_rfl) (by kernel_rfl) ?_
  repeat (go_big_quiet_step ((fail)))
  refine wpQuiet_nil ?_
  intro _ hw'
  obtain ⟨gg, rfl⟩ := hw'
  go_wp2_with fail
  go_ret2
  exact ⟨rfl, HG.out.trans (Grows.of w1 gg)⟩
theorem alloc_chg {w w2 w4 Z4 Y : World} {p bt bw a : Nat} {v : Value} (hg : Grows w w2) (h4 : Chg [p] w2 w4) (hz : Chg [bt, bw] w4.drew Z4) (hy : Grows Z4 Y) : Chg [p, bt, bw] w (Y.setCell ⟨p, a, none⟩ v) :=
  (((((Chg.of_grows hg).trans (h4.weaken (by simp))).trans (Chg.of_grows ((Grows.refl w4).drew))).trans (hz.weaken (by simp))).grows hy).setCell (Or.inl (by simp)) _ _
theorem alloc_end {w4 Z4 Y : World} {p bt bw n first k o s a : Nat} {T O own' : Nat → Nat} {g : Int → Option Int} {quo : Nat → Int} {v : Value} (h : FrAt w4 p bt bw n first T O quo k) (hown : ownC n (upF T k 1) (upF O k o) = own')
    (hI : IMap Tryd.prog 3 3 Z4 bt (heldC n T + 1) (imUpd (tmF n T) (k : Int) 1)) (hJ : IMap Tryd.prog 3 3 Z4 bw (s + 1) (imUpd g (k : Int) (o : Int))) (hs : s ≤ heldC n T)
    (hr : FrRow (Y.setCell ⟨p, a, none⟩ v) p bt bw n first own' quo k) (hy : Grows Z4 Y) (hk : k < n) (hT : T k = 0) (ho : o < 17)
    (g1 : ∀ i, i < n → 0 < T i → (g i).getD 0 = O i) (g2 : ∀ i : Nat, first ≤ i → i < n → 0 < T i → (g i).isSome) (g3 : ∀ x : Int, ¬ (0 ≤ x ∧ x < n ∧ 0 < T x.toNat) → g x = none) :
    FrAt (Y.setCell ⟨p, a, none⟩ v) p bt bw n first (upF T k 1) (upF O k o) quo k := by
  have hne := h.ne
  have hc : Chg [p] Z4 (Y.setCell ⟨p, a, none⟩ v) := (Chg.of_grows hy).setCell (Or.inl (by simp)) _ _
  refine ⟨by rw [hown]; exact hr, ?_, ⟨s + 1, _, ?_, IMap.chg' hJ hc (by simp; omega), fun i hi ht => ?_, fun i hf hi ht => ?_, fun x hx => ?_⟩, h.n1, h.n2, h.fl, h.lo, fun i hi => ?_, fun i hi ht => ?_, fun i hi => ?_, hne⟩
  · rw [heldC_new hk hT (by omega), tmF_put hk (by omega)]
    exact IMap.chg' hI hc (by simp; omega)
  · rw [heldC_new hk hT (by omega)]; omega
  · unfold imUpd
    by_cases e : i = k
    · rw [if_pos (by omega), e, upF_same]; rfl
    · rw [if_neg (by omega), upF_ne _ _ e]; rw [upF_ne _ _ e] at ht; exact g1 i hi ht
  · unfold imUpd
    by_cases e : i = k
    · rw [if_pos (by omega)]; rfl
    · rw [if_neg (by omega)]; rw [upF_ne _ _ e] at ht; exact g2 i hf hi ht
  · unfold imUpd
    rw [if_neg (fun e => hx (by rw [e]; exact ⟨by omega, by omega, by rw [Int.toNat_natCast, upF_same]; omega⟩))]
    refine g3 x (fun hh => hx ⟨hh.1, hh.2.1, ?_⟩)
    have e : x.toNat ≠ k := fun e => by have := hh.2.2; rw [e] at this; omega
    rw [upF_ne _ _ e]; exact hh.2.2
  · rw [upF_ne _ _ (by omega)]; exact h.below i hi
  · by_cases e : i = k
    · rw [e, upF_same]; exact ho
    · rw [upF_ne _ _ e] at ht ⊢; exact h.ob i hi ht
  · by_cases e : i = k
    · rw [e, upF_same]; omega
    · rw [upF_ne _ _ e]; exact h.tb i hi
set_option maxRecDepth 100000 in
set_option maxHeartbeats 2000000 in
/-- The least frame that is nobody's, or none. -/
theorem Alloc_any {w : World} {p bt bw n first low o : Nat} {T O : Nat → Nat} {quo : Nat → Int} (h : FrAt w p bt bw n first T O quo low) (ho17 : o < 17) (hq : (ownC n T O o : Int) < quo o) :
    Calls Tryd.prog 29 #[.pointer (some ⟨p, 0, none⟩), .int .i64 o] w fun r w' => ((∃ k, k < n ∧ (∀ i, i < k → 0 < T i) ∧ T k = 0 ∧ first ≤ k ∧ r = .returned (.tuple #[.int .i64 k, .int .i64 0]) ∧ FrAt w' p bt bw n first (upF T k 1) (upF O k o) quo k) ∨
      ((∀ i, i < n → 0 < T i) ∧ r = .returned (.tuple #[.int .i64 0, .int .i64 20]) ∧ FrAt w' p bt bw n first T O quo n)) ∧ Chg [p, bt, bw] w w' := by
  have hg : Grows w (w.alloc (Obj.cells #[.int .i64 (o : Int)] 3)) := (Grows.refl _).alloc _
  have hr : Row (w.alloc (Obj.cells #[.int .i64 (o : Int)] 3)) w.heap.size #[.int .i64 (o : Int)] 3 := Row.new w _ _
  have ho := owned_1 (h.grows hg) (o : Int) (hr.cell 0)
  rw [if_pos (show isOwn (o : Int) from ⟨by omega, by omega⟩)] at ho
  obtain ⟨w1, hw1⟩ : ∃ w1, w1 = w.alloc (Obj.cells #[.int .i64 (o : Int)] 3) := ⟨_, rfl⟩
  have HG : Hid (Grows w w1) := by show Grows _ _; rw [hw1]; exact hg
  have H1 : Hid (FrAt w1 p bt bw n first T O quo low) := h.grows HG.out
  rw [← hw1] at ho
  clear h hr hg
  go_enter Tryd.func29, Tryd.ntmps29
  go_wp2_with fail
  rw [← hw1]
  clear hw1
  obtain ⟨c0, c1, c2, c3, c4⟩ := H1.out.row.cells
  have l1 := H1.out.row.lt
  have co := H1.out.row.own ho17
  have cq := H1.out.row.quo ho17
  have i1 : (o : Int) < 17 := by omega
  have i2 : (0 : Int) ≤ (o : Int) := by omega
  refine (ho).mono ?_
  rintro _ _ ⟨rfl, hw⟩
  rw [hw]
  clear hw
  go_wp2_with fail
  have HQ := Lib.hid hq
  have dQ : decide (quo o ≤ (ownC n T O o : Int)) = false := decide_eq_false (by omega)
  have hole : ownC n T O o ≤ n := ownC_le
  obtain ⟨ov, hov⟩ : ∃ ov, ov = ownC n T O o := ⟨_, rfl⟩
  obtain ⟨qv, hqv⟩ : ∃ qv, qv = quo o := ⟨_, rfl⟩
  rw [← hov] at co dQ
  rw [← hqv] at cq dQ
  clear hov hqv hq
  refine wp_region_grow (by kernel_rfl) (by kernel_rfl) ?_
  repeat (go_big_quiet_step ((fail)))
  refine wpQuiet_nil ?_
  intro _ hw'
  obtain ⟨gg, rfl⟩ := hw'
  go_wp2_with fail
  clear co cq dQ
  obtain ⟨w2, hw2⟩ : ∃ w2, w2 = w1.grow gg := ⟨_, rfl⟩
  have H2 : Hid (FrAt w2 p bt bw n first T O quo low) := by show FrAt _ _ _ _ _ _ _ _ _ _; rw [hw2]; exact H1.out.grows (Grows.of w1 gg)
  have HG2 : Hid (Grows w w2) := by show Grows _ _; rw [hw2]; exact HG.out.trans (Grows.of w1 gg)
  rw [← hw2]
  clear hw2 c0 c1 c2 c3 c4 l1 H1 HG
  go_loopw [32] (fun _ wr => ∃ k, FrAt wr p bt bw n first T O quo k ∧ Chg [p] w2 wr) (fun _ wr => (n - lowOf wr p).toNat)
  case atStart => exact ⟨low, H2.out, Chg.refl _ _⟩
  case round =>
    obtain ⟨k, hF, hC⟩ := hrel
    obtain ⟨c0, c1, c2, c3, c4⟩ := hF.row.cells
    have l1 := hF.row.lt
    have f1 := hF.row.frozen 38
    have hn2 := hF.n2
    have hlo := hF.lo
    have HL := Lib.hid (lowOf_at hF)
    have HC := Lib.hid hC
    have HF := Lib.hid hF
    clear hC
    by_cases hkn : k < n
    · have ht : ∀ g, (Instr.lookup 29 (.map (some bt)) (.int .i64 k) false).run Tryd.prog (wr.grow g) = .ok (.int .i64 (T k : Nat)) (wr.grow g) := fun g => (hF.grows (Grows.of wr g)).look_tj hkn
      clear hF
      by_cases hT : 0 < T k
      · have HT := Lib.hid hT
        have dT : decide ((0 : Int) < (T k : Int)) = true := decide_eq_true (by omega)
        obtain ⟨tk, htk⟩ : ∃ tk, tk = T k := ⟨_, rfl⟩
        rw [← htk] at ht dT hT
        clear htk
        go_wp2_with fail
        refine wp_region_grow (by kernel_rfl) (by kernel_rfl) ?_
        repeat (go_big_quiet_step ((fail)))
        refine wpQuiet_nil ?_
        intro _ hw'
        obtain ⟨g2, rfl⟩ := hw'
        have hX := HF.out.grows (Grows.of wr g2)
        have HC2 := Lib.hid (HC.out.trans (Chg.of_grows (Grows.of wr g2)))
        have HX := Lib.hid hX
        have fX := hX.row.frozen 38
        have HS : Hid (FrAt ((wr.grow g2).setCell ⟨p, 38, none⟩ (.int .i64 (k + 1 : Nat))) p bt bw n first T O quo (k + 1)) := hX.setLow (by omega) (by have := hX.fl; omega) (fun i hi => by
          by_cases e : i = k
          · rw [e]; exact HT.out
          · exact hX.below i (by omega))
        have dk : IntKind.i64.wrap ((k : Int) + 1) = ((k + 1 : Nat) : Int) := by rw [IntKind.wrap_i64]; omega
        clear hX
        obtain ⟨k1, hk1⟩ : ∃ k1, k1 = k + 1 := ⟨_, rfl⟩
        rw [← hk1] at dk HS
        have HK := Lib.hid hk1
        clear hk1
        go_wp2_with fail
        refine ⟨⟨k1, HS.out, HC2.out.setCell (Or.inl (by simp)) _ _⟩, ?_⟩
        rw [lowOf_at HS.out, HL.out]
        have := HK.out
        omega
      · have hT0 : T k = 0 := by omega
        rw [hT0] at ht
        have HT0 := Lib.hid hT0
        clear hT hT0
        go_wp2_with fail
        refine wp_region_grow (by kernel_rfl) (by kernel_rfl) ?_
        repeat (go_big_quiet_step ((fail)))
        refine wpQuiet_nil ?_
        intro _ hw'
        obtain ⟨g2, rfl⟩ := hw'
        go_wp2_with fail
        obtain ⟨w3, hw3⟩ : ∃ w3, w3 = wr.grow g2 := ⟨_, rfl⟩
        have H3 : Hid (FrAt w3 p bt bw n first T O quo k) := by show FrAt _ _ _ _ _ _ _ _ _ _; rw [hw3]; exact HF.out.grows (Grows.of wr g2)
        have HC3 : Hid (Chg [p] w2 w3) := by show Chg _ _ _; rw [hw3]; exact HC.out.trans (Chg.of_grows (Grows.of wr g2))
        rw [← hw3]
        clear hw3 c0 c1 c2 c3 c4 l1 f1
        obtain ⟨c0, c1, c2, c3, c4⟩ := H3.out.row.cells
        have l1 := H3.out.row.lt
        refine wp_region_grow (by kernel_rfl) (by kernel_rfl) ?_
        repeat (go_big_quiet_step ((fail)))
        refine wpQuiet_nil ?_
        intro _ hw'
        obtain ⟨g3, rfl⟩ := hw'
        obtain ⟨w4, hw4⟩ : ∃ w4, w4 = w3.grow g3 := ⟨_, rfl⟩
        have H4 : Hid (FrAt w4 p bt bw n first T O quo k) := by show FrAt _ _ _ _ _ _ _ _ _ _; rw [hw4]; exact H3.out.grows (Grows.of w3 g3)
        have HC4 : Hid (Chg [p] w2 w4) := by show Chg _ _ _; rw [hw4]; exact HC3.out.trans (Chg.of_grows (Grows.of w3 g3))
        rw [← hw4]
        clear hw4 c0 c1 c2 c3 c4 l1 H3 HC3
        go_wp2_with fail
        have hne := H4.out.ne
        obtain ⟨s, g, gs, gI, q1, q2, q3⟩ := H4.out.wh
        have wk : wf64 (k : Int) := wf_of (by omega) (by omega)
        have hlt : heldC n T < maxLen := by have : heldC n T ≤ n := cn_le; unfold maxLen; omega
        have hZ : Grows w4 w4.drew := (Grows.refl _).drew
        have HZF := Lib.hid (H4.out.grows hZ)
        have gZ := IMap.grows gI hZ
        obtain ⟨d0, d1, d2, d3, d4⟩ := HZF.out.row.cells
        obtain ⟨c0, c1, c2, c3, c4⟩ := H4.out.row.cells
        have lz := HZF.out.row.lt
        obtain ⟨Z1, st1, e1, hg1, hs1⟩ := HZF.out.tm.entry Tryd.underlying3 Tryd.underlying3 Tryd.underlying29 (zero_int w4.drew) hlt wk (by rw [tmF_at hkn, HT0.out]; rfl)
        obtain ⟨Z2, e2, hI2, hg2'⟩ := hs1 Z1 rfl 1 (wf_of (by omega) (by omega))
        have hcz1 := Chg.of_grown hg1
        have hcz2 := Chg.of_grown hg2'
        have gZ2 := IMap.chg' (IMap.chg' gZ hcz1 (by simp; omega)) hcz2 (by simp; omega)
        obtain ⟨Z3, st3, e3, hg3', hs3⟩ := gZ2.entry Tryd.underlying3 Tryd.underlying3 Tryd.underlying29 (zero_int Z2) (by omega) wk (q3 k (fun hh => by have := hh.2.2; rw [Int.toNat_natCast, HT0.out] at this; omega))
        obtain ⟨Z4, e4, hI4, hg4⟩ := hs3 Z3 rfl (o : Int) (wf_of (by omega) (by omega))
        have hcz3 := Chg.of_grown hg3'
        have hcz4 := Chg.of_grown hg4
        have hcz : Chg [bt, bw] w4.drew Z4 := (((hcz1.weaken (by simp)).trans (hcz2.weaken (by simp))).trans (hcz3.weaken (by simp))).trans (hcz4.weaken (by simp))
        have R4 := Lib.hid (HZF.out.row.chg hcz (by simp; omega))
        have I4 := Lib.hid (IMap.chg' (IMap.chg' hI2 hcz3 (by simp; omega)) hcz4 (by simp; omega))
        have J4 := Lib.hid hI4
        have HCZ := Lib.hid hcz
        have GZ := Lib.hid hZ
        have Q1 := Lib.hid q1
        have Q2 := Lib.hid q2
        have Q3 := Lib.hid q3
        clear q1 q2 q3 hs1 hs3 hg1 hg2' hg3' hg4 hcz1 hcz2 hcz3 hcz4 hcz hI2 hI4 gZ gZ2 gI hZ ht
        go_region
        go_wp2_with fail
        clear d0 d1 d2 d3 d4 c0 c1 c2 c3 c4 lz e1 e2 e3 e4
        obtain ⟨Y, hV⟩ : ∃ V, V = World.drew Z4 := ⟨_, rfl⟩
        have hY : Grows Z4 Y := by rw [hV]; exact (Grows.refl _).drew
        refine wp_region_still_tail 10 (by kernel_rfl) (by kernel_rfl) ?_
        simp only [List.take_succ_cons, List.take_zero, List.drop_succ_cons, List.drop_zero]
        change wpStill _ _ (World.drew Z4) _ _ _
        rw [← hV]
        have HY := Lib.hid hV
        clear hV
        have RY := Lib.hid (FrRow.chg (S := []) R4.out (Chg.of_grows hY) (by simp))
        have co := RY.out.own ho17
        have fo := RY.out.frozen (4 + o)
        have lz := RY.out.lt
        have cl := RY.out.cells.2.2.2.2
        have R5 := Lib.hid (RY.out.setOwn ho17 (ownC n T O o + 1))
        have GY := Lib.hid hY
        have HOWN := Lib.hid (ownC_new (v := 1) (o := o) (O := O) hkn HT0.out (by omega))
        have dw : IntKind.i64.wrap ((ownC n T O o : Int) + 1) = ((ownC n T O o + 1 : Nat) : Int) := by rw [IntKind.wrap_i64]; omega
        obtain ⟨vc, hvc⟩ : ∃ vc, vc = ownC n T O o + 1 := ⟨_, rfl⟩
        rw [← hvc] at dw R5 HOWN
        obtain ⟨vb, hvb⟩ : ∃ vb, vb = ownC n T O o := ⟨_, rfl⟩
        rw [← hvb] at co dw
        have HE := Lib.hid (alloc_end H4.out HOWN.out I4.out J4.out (by omega) R5.out GY.out hkn HT0.out ho17 Q1.out Q2.out Q3.out)
        clear hvc hvb hY hole
        repeat still_step
        refine wpStill_nil ?_
        change wpList _ _ _ _ _ (World.drew Z4)
        rw [← (HY).out]
        go_wp2_with fail
        go_ret2
        exact ⟨Or.inl ⟨k, hkn, H4.out.below, HT0.out, H4.out.fl, rfl, HE.out⟩, alloc_chg HG2.out HC4.out HCZ.out GY.out⟩
    · have : n = k := by omega
      subst this
      clear hkn hF
      go_wp2_with fail
      refine wp_region_grow (by kernel_rfl) (by kernel_rfl) ?_
      repeat (go_big_quiet_step ((fail)))
      refine wpQuiet_nil ?_
      intro _ hw'
      obtain ⟨g2, rfl⟩ := hw'
      go_wp2_with fail
      obtain ⟨w3, hw3⟩ : ∃ w3, w3 = wr.grow g2 := ⟨_, rfl⟩
      have H3 : Hid (FrAt w3 p bt bw n first T O quo n) := by show FrAt _ _ _ _ _ _ _ _ _ _; rw [hw3]; exact HF.out.grows (Grows.of wr g2)
      have HC3 : Hid (Chg [p] w2 w3) := by show Chg _ _ _; rw [hw3]; exact HC.out.trans (Chg.of_grows (Grows.of wr g2))
      rw [← hw3]
      clear hw3 c0 c1 c2 c3 c4 l1 f1
      obtain ⟨c0, c1, c2, c3, c4⟩ := H3.out.row.cells
      have l1 := H3.out.row.lt
      refine wp_region_grow (by kernel_rfl) (by kernel_rfl) ?_
      repeat (go_big_quiet_step ((fail)))
      refine wpQuiet_nil ?_
      intro _ hw'
      obtain ⟨g3, rfl⟩ := hw'
      obtain ⟨w4, hw4⟩ : ∃ w4, w4 = w3.grow g3 := ⟨_, rfl⟩
      have H4 : Hid (FrAt w4 p bt bw n first T O quo n) := by show FrAt _ _ _ _ _ _ _ _ _ _; rw [hw4]; exact H3.out.grows (Grows.of w3 g3)
      have HC4 : Hid (Chg [p] w2 w4) := by show Chg _ _ _; rw [hw4]; exact HC3.out.trans (Chg.of_grows (Grows.of w3 g3))
      rw [← hw4]
      clear hw4 c0 c1 c2 c3 c4 l1 H3 HC3
      go_wp2_with fail
      go_ret2
      exact ⟨Or.inr ⟨H4.out.below, rfl, H4.out⟩, ((Chg.of_grows HG2.out).trans (HC4.out.weaken (by simp)))⟩
end Go.Proofs.YtlchlklbjocliaaDoor

/- frames: New. -/
namespace Go.Proofs.YtlchlklbjocliaaDoor
open Go Go.RowKit
set_option linter.unusedSimpArgs false
set_option linter.unusedVariables false
set_option maxRecDepth 100000
/-- The first k frames are had. -/
def fstT (k : Nat) : Nat → Nat := fun j => if j < k then 1 else 0
theorem fstT_up (k : Nat) : upF (fstT k) k 1 = fstT (k + 1) := by
  funext j; unfold upF fstT
  by_cases e : j = k
  · rw [if_pos e, if_pos (by omega)]
  · rw [if_neg e]
    by_cases h : j < k
    · rw [if_pos h, if_pos (by omega)]
    · rw [if_neg h, if_neg (by omega)]
theorem fstT_at (k : Nat) : fstT k k = 0 := by unfold fstT; rw [if_neg (by omega)]
theorem heldC_fst (n k : Nat) (h : k ≤ n) : heldC n (fstT k) = k := by
  induction k with
  | zero => exact cn_none fun i _ => by simp [fstT]
  | succ k ih =>
    have := heldC_new (n := n) (v := 1) (T := fstT k) (show k < n by omega) (fstT_at k) (by omega)
    rw [fstT_up, ih (by omega)] at this
    exact this
theorem ownC_fst (n k : Nat) (h : k ≤ n) : ownC n (fstT k) (fun _ => 0) = upF (fun _ => 0) 0 k := by
  funext o
  by_cases e : o = 0
  · subst e
    rw [upF_same]
    exact Eq.trans (cn_congr (q := fun j => decide (0 < fstT k j)) fun i _ => by simp) (heldC_fst n k h)
  · rw [upF_ne _ _ e]
    exact cn_none fun i _ => by simp; omega
theorem tmF_zero (n : Nat) : tmF n (fstT 0) = fun _ => none := by
  funext x; unfold tmF fstT; rw [if_neg (by simp)]
theorem FrRow.congr {w : World} {p bt bw n first low : Nat} {own : Nat → Nat} {quo quo' : Nat → Int} (h : FrRow w p bt bw n first own quo low) (hq : ∀ i, i < 17 → quo i = quo' i) : FrRow w p bt bw n first own quo' low := by
  obtain ⟨cs, t, hr, h9, h0, h1, h2, h3, h5, h6, h7⟩ := h
  exact ⟨cs, t, hr, h9, h0, h1, h2, h3, h5, fun i hi => by rw [← hq i hi]; exact h6 i hi, h7⟩
def newCells (n first bt bw : Nat) : Array Value := #[.int .i64 n, .int .i64 first, .map (some bt), .map (some bw), .int .i64 0, .int .i64 0, .int .i64 0, .int .i64 0, .int .i64 0, .int .i64 0, .int .i64 0, .int .i64 0, .int .i64 0, .int .i64 0, .int .i64 0, .int .i64 0, .int .i64 0, .int .i64 0, .int .i64 0, .int .i64 0, .int .i64 0, .int .i64 0, .int .i64 0, .int .i64 0, .int .i64 0, .int .i64 0, .int .i64 0, .int .i64 0, .int .i64 0, .int .i64 0, .int .i64 0, .int .i64 0, .int .i64 0, .int .i64 0, .int .i64 0, .int .i64 0, .int .i64 0, .int .i64 0, .int .i64 first]
theorem newCells_def (n first bt bw : Nat) : (#[.int .i64 n, .int .i64 first, .map (some bt), .map (some bw), .int .i64 0, .int .i64 0, .int .i64 0, .int .i64 0, .int .i64 0, .int .i64 0, .int .i64 0, .int .i64 0, .int .i64 0, .int .i64 0, .int .i64 0, .int .i64 0, .int .i64 0, .int .i64 0, .int .i64 0, .int .i64 0, .int .i64 0, .int .i64 0, .int .i64 0, .int .i64 0, .int .i64 0, .int .i64 0, .int .i64 0, .int .i64 0, .int .i64 0, .int .i64 0, .int .i64 0, .int .i64 0, .int .i64 0, .int .i64 0, .int .i64 0, .int .i64 0, .int .i64 0, .int .i64 0, .int .i64 first] : Array Value) = newCells n first bt bw := rfl
theorem FrRow.made {w : World} {p bt bw n first : Nat} {t : TypeId} (h : Row w p (newCells n first bt bw) t) : FrRow w p bt bw n first (fun _ => 0) (fun _ => 0) first := by
  refine ⟨_, t, h, rfl, rfl, rfl, rfl, rfl, fun i hi => ?_, fun i hi => ?_, rfl⟩
  · have : i = 0 ∨ i = 1 ∨ i = 2 ∨ i = 3 ∨ i = 4 ∨ i = 5 ∨ i = 6 ∨ i = 7 ∨ i = 8 ∨ i = 9 ∨ i = 10 ∨ i = 11 ∨ i = 12 ∨ i = 13 ∨ i = 14 ∨ i = 15 ∨ i = 16 := by omega
    rcases this with rfl | rfl | rfl | rfl | rfl | rfl | rfl | rfl | rfl | rfl | rfl | rfl | rfl | rfl | rfl | rfl | rfl <;> rfl
  · have : i = 0 ∨ i = 1 ∨ i = 2 ∨ i = 3 ∨ i = 4 ∨ i = 5 ∨ i = 6 ∨ i = 7 ∨ i = 8 ∨ i = 9 ∨ i = 10 ∨ i = 11 ∨ i = 12 ∨ i = 13 ∨ i = 14 ∨ i = 15 ∨ i = 16 := by omega
    rcases this with rfl | rfl | rfl | rfl | rfl | rfl | rfl | rfl | rfl | rfl | rfl | rfl | rfl | rfl | rfl | rfl | rfl <;> rfl
set_option maxRecDepth 100000 in
set_option maxHeartbeats 2000000 in
theorem fnew_ok (w : World) {n first : Nat} (h1 : 1 ≤ n) (h2 : n ≤ 65536) (hf : first ≤ n) :
    Calls Tryd.prog 20 #[.int .i64 n, .int .i64 first] w fun r w' => ∃ p bt bw, r = .returned (.tuple #[.pointer (some ⟨p, 0, none⟩), .int .i64 0]) ∧ FrAt w' p bt bw n first (fstT first) (fun _ => 0) (fun _ => (n : Int)) first ∧ Grows w w' ∧ w.heap.size ≤ p ∧ w.heap.size ≤ bt ∧ w.heap.size ≤ bw := by
  have hmm := @run_makeMap Tryd.prog
  have d1 : decide ((n : Int) < 1) = false := decide_eq_false (by omega)
  have d2 : decide ((65536 : Int) < n) = false := decide_eq_false (by omega)
  have d3 : decide ((first : Int) < 0) = false := decide_eq_false (by omega)
  have d4 : decide ((n : Int) < first) = false := decide_eq_false (by omega)
  go_enter Tryd.func20, Tryd.ntmps20
  go_wp2_with fail
  rw [newCells_def]
  obtain ⟨W3, hW3⟩ : ∃ W3, W3 = (((w.alloc (Obj.map #[] 0)).alloc (Obj.map #[] 0)).alloc (Obj.cells (newCells n first w.heap.size (w.heap.size + 1)) 53)) := ⟨_, rfl⟩
  obtain ⟨bt, hbt⟩ : ∃ bt, bt = w.heap.size := ⟨_, rfl⟩
  obtain ⟨bw, hbw⟩ : ∃ bw, bw = w.heap.size + 1 := ⟨_, rfl⟩
  obtain ⟨p, hp⟩ : ∃ p, p = w.heap.size + 1 + 1 := ⟨_, rfl⟩
  have g3 : Grows w W3 := by rw [hW3]; exact (((Grows.refl _).alloc _).alloc _).alloc _
  have m1 : IMap Tryd.prog 3 3 W3 bt 0 (fun _ => none) := by
    rw [hW3, hbt]
    exact IMap.grows (IMap.grows (IMap.made w _ _ _) ((Grows.refl _).alloc _)) ((Grows.refl _).alloc _)
  have m2 : IMap Tryd.prog 3 3 W3 bw 0 (fun _ => none) := by
    rw [hW3, hbw]
    have h := IMap.made (w.alloc (Obj.map #[] 0)) Tryd.prog 3 3
    rw [show (w.alloc (Obj.map #[] 0)).heap.size = w.heap.size + 1 by simp] at h
    exact IMap.grows h ((Grows.refl _).alloc _)
  have r3 : Row W3 p (newCells n first bt bw) 53 := by
    rw [hW3, hbw, hbt]; exact Row.new_at _ _ _ (by simp [hp])
  rw [← hW3, ← hp, ← hbw, ← hbt]
  have hsep : Hid ((p ≠ bt ∧ p ≠ bw ∧ bt ≠ bw) ∧ w.heap.size ≤ p ∧ w.heap.size ≤ bt ∧ w.heap.size ≤ bw) := Lib.hid (by omega)
  have HR := Lib.hid (FrRow.made r3)
  have HM1 := Lib.hid m1
  have HM2 := Lib.hid m2
  have HG := Lib.hid g3
  generalize newCells n first bt bw = NC at *
  clear hW3 hbt hbw hp g3 m1 m2 r3
  have hne := hsep.out.1
  have h2' : n < maxLen := by unfold maxLen; omega
  go_loopw [32] (fun c wr => ∃ k, k ≤ first ∧ c = .int .i64 (k : Nat) ∧ FrRow wr p bt bw n first (fun _ => 0) (fun _ => 0) first ∧ IMap Tryd.prog 3 3 wr bt k (tmF n (fstT k)) ∧ Chg [bt] W3 wr) (fun c _ => (first - intOf c).toNat)
  case atStart => exact ⟨0, by omega, rfl, HR.out, by rw [tmF_zero]; exact HM1.out, Chg.refl _ _⟩
  case round =>
    obtain ⟨k, hk, rfl, hR, hM, hC⟩ := hrel
    obtain ⟨c0, c1, c2, c3, c4⟩ := hR.cells
    have l1 := hR.lt
    by_cases hlt : k < first
    · obtain ⟨w4, hrun, hI, hgr⟩ := hM.update Tryd.underlying3 Tryd.underlying3 Tryd.underlying29 (by omega) (K := (k : Int)) (V := 1) (wf_of (by omega) (by omega)) (wf_of (by omega) (by omega))
      have hc := Chg.of_grown hgr
      have hnone : tmF n (fstT k) (k : Int) = none := by rw [tmF_at (by omega), fstT_at]; rfl
      rw [hnone] at hI
      have HI : Hid (IMap Tryd.prog 3 3 w4 bt (k + 1) (tmF n (fstT (k + 1)))) := by
        show IMap _ _ _ _ _ _ _
        rw [← fstT_up, tmF_put (by omega) (by omega)]
        exact hI
      have HR4 := Lib.hid (hR.chg hc (by simp; omega))
      have HC4 := Lib.hid (hC.trans hc)
      clear hI hgr hc hR hM hC hnone
      go_wp2_with fail
      exact ⟨⟨k + 1, by omega, by simp, HR4.out, HI.out, HC4.out⟩, by simp [intOf]; omega⟩
    · have : first = k := by omega
      subst this
      have HR4 := Lib.hid hR
      have HI := Lib.hid hM
      have HC4 := Lib.hid hC
      have ho := hR.own (i := 0) (by omega)
      have fo := hR.frozen 4
      clear hR hM hC
      have R5 := Lib.hid (HR4.out.setOwn (i := 0) (by omega) first)
      go_wp2_with fail
      obtain ⟨w5, hw5⟩ : ∃ w5, w5 = wr.setCell ⟨p, 4, none⟩ (.int .i64 (first : Nat)) := ⟨_, rfl⟩
      have R6 : Hid (FrRow w5 p bt bw n first (upF (fun _ => 0) 0 first) (fun _ => 0) first) := by show FrRow _ _ _ _ _ _ _ _ _; rw [hw5]; exact R5.out
      have HC5 : Hid (Chg [p, bt] W3 w5) := by show Chg _ _ _; rw [hw5]; exact (HC4.out.weaken (by simp)).setCell (Or.inl (by simp)) _ _
      have HI5 : Hid (IMap Tryd.prog 3 3 w5 bt first (tmF n (fstT first))) := by
        show IMap _ _ _ _ _ _ _
        rw [hw5]; exact IMap.chg' HI.out ((Chg.refl [p] _).setCell (Or.inl (by simp)) _ _) (by simp; omega)
      rw [← hw5]
      clear hw5 c0 c1 c2 c3 c4 ho fo l1 R5
      go_loopw [46] (fun c w6 => ∃ k : Nat, k ≤ 17 ∧ c = .int .i64 k ∧ FrRow w6 p bt bw n first (upF (fun _ => 0) 0 first) (fun j => if j < k then (n : Int) else 0) first ∧ Chg [p] w5 w6) (fun c _ => (17 - intOf c).toNat)
      case atStart => exact ⟨0, by omega, rfl, R6.out.congr (fun i hi => by simp), Chg.refl _ _⟩
      case round =>
        obtain ⟨k, hk, rfl, hR, hC⟩ := hrel
        have l1 := hR.lt
        by_cases hlt2 : k < 17
        · have cq := hR.quo hlt2
          have fq := hR.frozen (21 + k)
          have HR7 := Lib.hid ((hR.setQuo hlt2 (n : Int)).congr (quo' := fun j => if j < k + 1 then (n : Int) else 0) (fun i hi => by
            by_cases e : i = k
            · simp [e]
            · by_cases e2 : i < k
              · simp [e, e2, show i < k + 1 by omega]
              · simp [e, e2, show ¬ i < k + 1 by omega]))
          have HC7 := Lib.hid hC
          have i1 : (k : Int) < 17 := by omega
          clear hR hC
          go_wp2_with fail
          exact ⟨⟨k + 1, by omega, by simp, HR7.out, HC7.out.setCell (Or.inl (by simp)) _ _⟩, by simp [intOf]; omega⟩
        · have : k = 17 := by omega
          subst this
          have HR7 := Lib.hid (hR.congr (quo' := fun _ => (n : Int)) (fun i hi => by simp [hi]))
          have HC7 := Lib.hid hC
          clear hR hC
          go_wp2_with fail
          go_ret2
          refine ⟨p, bt, bw, rfl, ⟨by rw [ownC_fst n first hf]; exact HR7.out, by rw [heldC_fst n first hf]; exact IMap.chg' HI5.out HC7.out (by simp; omega), ⟨0, _, by omega, IMap.chg' (IMap.chg' HM2.out HC5.out (by simp; omega)) HC7.out (by simp; omega), fun _ _ _ => rfl, fun j h3 h4 h5 => ?_, fun _ _ => rfl⟩, h1, h2, Nat.le_refl _, hf, fun j hj => ?_, fun j hj _ => by omega, fun j hj => ?_, hne⟩, ?_, hsep.out.2.1, hsep.out.2.2.1, hsep.out.2.2.2⟩
          · unfold fstT at h5; rw [if_neg (by omega)] at h5; omega
          · unfold fstT; rw [if_pos hj]; omega
          · unfold fstT; split <;> omega
          · have := hsep.out.2
            exact (HC5.out.trans (HC7.out.weaken (by simp))).to_grows HG.out (by simp; omega)
end Go.Proofs.YtlchlklbjocliaaDoor

