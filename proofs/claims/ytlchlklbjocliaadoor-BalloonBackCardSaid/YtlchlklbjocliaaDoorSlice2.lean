/- Arguments opened to the bottom: structs, arrays, and slices in them; each slice's size is bounded. -/
import Derived.Test.YtlchlklbjocliaaDoorRow
import Derived.Test.YtlchlklbjocliaaDoorSlice
import Derived.Deep.Slices
import Derived.OpenShut
import Derived.SizedLaws
namespace Go
open Go.ChangeShapes Go.WideShapes Go.Deep
set_option linter.unusedSimpArgs false
set_option linter.unusedVariables false
set_option maxRecDepth 100000
section
variable {H : Type} {enc : TypeId × Value → H} {P : Program} {w : World}
/-- No slice, string or map in it is too large. -/
def Sized (P : Program) (t : TypeId) (d : DataW H) : Prop := (d.weights P t).all (· ≤ reachBytes) = true
theorem weights_mem_all {e : TypeId} : ∀ {ds : List (DataW H)} {j : Nat} {d : DataW H}, ds[j]? = some d → ∀ n ∈ d.weights P e, n ∈ DataW.weightsAll P e ds
  | d0 :: ds, 0, d, hd, n, hn => by
    simp only [List.getElem?_cons_zero, Option.some.injEq] at hd
    subst hd
    simp only [DataW.weightsAll, List.mem_append]
    exact Or.inl hn
  | d0 :: ds, j + 1, d, hd, n, hn => by
    simp only [List.getElem?_cons_succ] at hd
    simp only [DataW.weightsAll, List.mem_append]
    exact Or.inr (weights_mem_all hd n hn)
  | [], _, _, hd, _, _ => by simp at hd
theorem Sized.field {t : TypeId} {fs : Array Field} {xs : List (DataW H)} (ht : P.underlying t = some (.struct fs)) (h : Sized P t (.agg xs)) {j : Nat} {f : Field} {d : DataW H} (hf : fs[j]? = some f) (hd : xs[j]? = some d) : Sized P f.type d := by
  unfold Sized at *
  rw [List.all_eq_true] at *
  intro n hn
  refine h n ?_
  simp only [DataW.weights, ht]
  exact DataW.weights_mem_each (j := j) (t := f.type) (by simp [hf]) hd n hn
theorem Sized.elem {t e : TypeId} {k : Nat} {xs : List (DataW H)} (ht : P.underlying t = some (.array k e)) (h : Sized P t (.agg xs)) {j : Nat} {d : DataW H} (hd : xs[j]? = some d) : Sized P e d := by
  unfold Sized at *
  rw [List.all_eq_true] at *
  intro n hn
  refine h n ?_
  simp only [DataW.weights, ht]
  exact weights_mem_all hd n hn
theorem Sized.slice {t e : TypeId} {xs sp : List (DataW H)} (ht : P.underlying t = some (.slice e)) (h : Sized P t (.slice xs sp)) : (xs.length + sp.length) * P.bytesOf e ≤ reachBytes ∧ (∀ (j : Nat) (d : DataW H), xs[j]? = some d → Sized P e d) ∧ (∀ (j : Nat) (d : DataW H), sp[j]? = some d → Sized P e d) := by
  unfold Sized at *
  rw [List.all_eq_true] at h
  simp only [DataW.weights, ht] at h
  refine ⟨by simpa using h _ (List.mem_cons_self ..), fun j d hd => ?_, fun j d hd => ?_⟩
  · rw [List.all_eq_true]
    intro n hn
    exact h n (List.mem_cons_of_mem _ (List.mem_append_left _ (weights_mem_all hd n hn)))
  · rw [List.all_eq_true]
    intro n hn
    exact h n (List.mem_cons_of_mem _ (List.mem_append_right _ (weights_mem_all hd n hn)))
theorem Sized.of_each {ts : List TypeId} {ds : List (DataW H)} (h : (DataW.weightsEach P ts ds).all (· ≤ reachBytes) = true) {j : Nat} {t : TypeId} {d : DataW H} (ht : ts[j]? = some t) (hd : ds[j]? = some d) : Sized P t d := by
  unfold Sized
  rw [List.all_eq_true] at *
  intro n hn
  exact h n (DataW.weights_mem_each ht hd n hn)
/-- A cell that reads as a datum of its type, not too large. -/
def Leaf2 (enc : TypeId × Value → H) (P : Program) (w : World) (t : TypeId) (c : Value) : Prop :=
  ∃ base held fuel, ∃ x : DataW H × List MemPlace, DataW.trod enc P w base (fun _ => true) held fuel t [c] = some x ∧ Sized P t x.1
theorem Leaf2.int {t : TypeId} {c : Value} {k : IntKind} (ht : P.underlying t = some (.int k)) (h : Leaf2 enc P w t c) : ∃ n, c = .int k n ∧ (Lit.int k n).wf = true := by
  obtain ⟨base, held, fuel, x, h, _⟩ := h
  obtain ⟨n, hc, _, hw⟩ := DataW.trod_int ht h
  simp at hc
  exact ⟨n, hc, hw⟩
theorem Leaf2.bool {t : TypeId} {c : Value} (ht : P.underlying t = some .bool) (h : Leaf2 enc P w t c) : ∃ x, c = .bool x := by
  obtain ⟨base, held, fuel, x, h, _⟩ := h
  obtain ⟨b, hc, _⟩ := DataW.trod_bool ht h
  simp at hc
  exact ⟨b, hc⟩
def Leafs2 (enc : TypeId × Value → H) (P : Program) (w : World) : List TypeId → List Value → Prop
  | [], [] => True
  | t :: ts, c :: cs => Leaf2 enc P w t c ∧ Leafs2 enc P w ts cs
  | _, _ => False
theorem Leafs2.cons {t : TypeId} {ts : List TypeId} {cs : List Value} (h : Leafs2 enc P w (t :: ts) cs) : ∃ c cs', cs = c :: cs' ∧ Leaf2 enc P w t c ∧ Leafs2 enc P w ts cs' := by
  cases cs with
  | nil => exact h.elim
  | cons c cs => exact ⟨c, cs, rfl, h.1, h.2⟩
theorem Leafs2.nil {cs : List Value} (h : Leafs2 enc P w [] cs) : cs = [] := by
  cases cs with
  | nil => rfl
  | cons c cs => exact h.elim
theorem Leafs2.append : ∀ {ts us : List TypeId} {cs ds : List Value}, Leafs2 enc P w ts cs → Leafs2 enc P w us ds → Leafs2 enc P w (ts ++ us) (cs ++ ds)
  | [], _, [], _, _, h => h
  | _ :: _, _, _ :: _, _, h, g => ⟨h.1, Leafs2.append h.2 g⟩
  | [], _, _ :: _, _, h, _ => h.elim
  | _ :: _, _, [], _, h, _ => h.elim
theorem Leafs2.length : ∀ {ts : List TypeId} {cs : List Value}, Leafs2 enc P w ts cs → cs.length = ts.length
  | [], [], _ => rfl
  | _ :: _, _ :: _, h => by have := Leafs2.length h.2; simp [this]
  | [], _ :: _, h => h.elim
  | _ :: _, [], h => h.elim
theorem Leafs2.ints {t : TypeId} {k : IntKind} (ht : P.underlying t = some (.int k)) : ∀ (n : Nat) {ts : List TypeId} {cs : List Value}, Leafs2 enc P w (List.replicate n t ++ ts) cs →
    ∃ (ns : List Int) (cs' : List Value), cs = ns.map (.int k) ++ cs' ∧ ns.length = n ∧ (∀ x ∈ ns, (Lit.int k x).wf = true) ∧ Leafs2 enc P w ts cs'
  | 0, _, cs, h => ⟨[], cs, rfl, rfl, by simp, h⟩
  | n + 1, ts, cs, h => by
    obtain ⟨c, cs1, rfl, hc, h1⟩ := Leafs2.cons (show Leafs2 enc P w (t :: (List.replicate n t ++ ts)) cs from h)
    obtain ⟨x, rfl, hx⟩ := hc.int ht
    obtain ⟨ns, cs', rfl, hl, hw, h2⟩ := Leafs2.ints ht n h1
    exact ⟨x :: ns, cs', rfl, by simp [hl], by simpa using ⟨hx, hw⟩, h2⟩
/-- The types of the cells of a struct (of structs, of arrays) of numbers, bools and slices. -/
def leaves2 (P : Program) : Nat → TypeId → Option (List TypeId)
  | 0, _ => none
  | f + 1, t => match P.underlying t with
    | some .bool => some [t]
    | some (.int _) => some [t]
    | some (.slice _) => some [t]
    | some (.struct fs) => (leavesF P (leaves2 P f) 0 fs.toList).bind fun ts => if P.cellsOf t = ts.length then some ts else none
    | some (.array n e) => (leaves2 P f e).bind fun l => if P.cellsOf e = l.length ∧ P.cellsOf t = n * l.length then some (List.replicate n l).flatten else none
    | _ => none
theorem leavesF2_ok {base : Nat} {held : Bool} {L : TypeId → Option (List TypeId)} (hL : ∀ {t : TypeId} {ts : List TypeId} {fuel : Nat} {cs : List Value} {x : DataW H × List MemPlace}, L t = some ts → DataW.trod enc P w base (fun _ => true) held fuel t cs = some x → Sized P t x.1 → Leafs2 enc P w ts cs) (cs : List Value) {fuel : Nat} :
    ∀ (fl : List Field) (o : Nat) (ts : List TypeId), leavesF P L o fl = some ts → (∀ fd ∈ fl, ∃ x : DataW H × List MemPlace, DataW.trod enc P w base (fun _ => true) held fuel fd.type ((cs.drop fd.offset).take (P.cellsOf fd.type)) = some x ∧ Sized P fd.type x.1) → Leafs2 enc P w ts ((cs.drop o).take ts.length)
  | [], o, ts, h, _ => by
    simp [leavesF] at h; subst h; simp [Leafs2]
  | fd :: rest, o, ts, h, g => by
    unfold leavesF at h
    cases hl : L fd.type with
    | none => simp [hl] at h
    | some l =>
      simp only [hl] at h
      split at h
      · rename_i hc
        obtain ⟨ho, hn⟩ := hc
        cases hr : leavesF P L (o + l.length) rest with
        | none => simp [hr] at h
        | some r =>
          simp [hr] at h
          subst h
          obtain ⟨x, hx, hz⟩ := g fd (by simp)
          have h1 := hL hl hx hz
          have h2 := leavesF2_ok hL cs rest (o + l.length) r hr (fun f hf => g f (by simp [hf]))
          rw [ho, hn] at h1
          have := h1.append h2
          rw [List.length_append, List.take_add, List.drop_drop]
          exact this
      · cases h
theorem leavesA2_ok {l : List TypeId} (cs : List Value) : ∀ (n : Nat), (∀ i, i < n → Leafs2 enc P w l ((cs.drop (i * l.length)).take l.length)) → Leafs2 enc P w (List.replicate n l).flatten (cs.take (n * l.length))
  | 0, _ => by simp [Leafs2]
  | n + 1, h => by
    have h1 := leavesA2_ok cs n (fun i hi => h i (by omega))
    have h2 := h n (by omega)
    have := h1.append h2
    rw [Nat.add_mul, Nat.one_mul, List.take_add, List.replicate_succ', List.flatten_append]
    simpa using this
theorem leaves2_ok {base : Nat} {held : Bool} : ∀ (f : Nat) {t : TypeId} {ts : List TypeId} {fuel : Nat} {cs : List Value} {x : DataW H × List MemPlace}, leaves2 P f t = some ts → DataW.trod enc P w base (fun _ => true) held fuel t cs = some x → Sized P t x.1 → Leafs2 enc P w ts cs
  | 0, _, _, _, _, _, h, _, _ => by simp [leaves2] at h
  | f + 1, t, ts, fuel, cs, x, h, g, hz => by
    unfold leaves2 at h
    split at h
    · rename_i ht
      simp at h; subst h
      obtain ⟨b, rfl, _⟩ := DataW.trod_bool ht g
      exact ⟨⟨base, held, fuel, x, g, hz⟩, trivial⟩
    · rename_i k ht
      simp at h; subst h
      obtain ⟨n, rfl, _⟩ := DataW.trod_int ht g
      exact ⟨⟨base, held, fuel, x, g, hz⟩, trivial⟩
    · rename_i e ht
      simp at h; subst h
      rcases open_slice ht g with ⟨rfl, _⟩ | ⟨a, len, cap, _, _, _, _, rfl, _⟩
      · exact ⟨⟨base, held, fuel, x, g, hz⟩, trivial⟩
      · exact ⟨⟨base, held, fuel, x, g, hz⟩, trivial⟩
    · rename_i fs ht
      cases hl : leavesF P (leaves2 P f) 0 fs.toList with
      | none => simp [hl] at h
      | some us =>
        simp [hl] at h
        obtain ⟨hn, rfl⟩ := h
        obtain ⟨xs, n, _, rfl, hlen, hxl, hf⟩ := DataW.trod_struct ht g
        have := leavesF2_ok (fun {_ _ _ _ _} a b c => leaves2_ok f a b c) cs (fuel := n) fs.toList 0 us hl (fun fd hfd => by
          obtain ⟨j, hj⟩ := List.getElem?_of_mem hfd
          have hj' : fs[j]? = some fd := by simpa using hj
          have hlt : j < fs.size := (Array.getElem?_eq_some_iff.1 hj').1
          exact ⟨xs[j]'(by omega), (hf j fd hj').trans (List.getElem?_eq_getElem (by omega)), hz.field ht hj' (by simp [show j < xs.length by omega])⟩)
        rw [List.drop_zero, List.take_of_length_le (by omega)] at this
        exact this
    · rename_i n e ht
      cases hl : leaves2 P f e with
      | none => simp [hl] at h
      | some l =>
        simp [hl] at h
        obtain ⟨⟨he, hn⟩, rfl⟩ := h
        obtain ⟨xs, m, _, rfl, hlen, hxl, hf⟩ := DataW.trod_array ht g
        have := leavesA2_ok (enc := enc) (P := P) (w := w) (l := l) cs n (fun i hi => by
          have h1 := hf i hi
          rw [he, List.getElem?_eq_getElem (by omega)] at h1
          exact leaves2_ok f hl h1 (hz.elem ht (j := i) (by simp [show i < xs.length by omega])))
        rw [List.take_of_length_le (by omega)] at this
        exact this
    · cases h
/-- A slice opened: `X i` are the cells of element i. -/
def SliceIs2 (enc : TypeId × Value → H) (P : Program) (w : World) (ts : List TypeId) (A : Option Addr) (n : Nat) (X : Nat → List Value) : Prop :=
  ∀ i, i < n → ∃ b o, A = some ⟨b, o, none⟩ ∧ b < w.heap.size ∧ Leafs2 enc P w ts (X i) ∧ ∀ j, j < ts.length → w.cell? ⟨b, o + (i * ts.length + j), none⟩ = (X i)[j]?
theorem cells?_spot {w : World} {base : Nat} {a : Addr} {n : Nat} {cs : List Value} (h : w.cells? base a n = some cs) (hn : 0 < n) : a.spot = none := by
  obtain ⟨_, hl, hc⟩ := World.cells?_some h
  have h0 := hc (i := 0) hn
  rw [List.getElem?_eq_getElem (by omega)] at h0
  cases hs : a.spot with
  | none => rfl
  | some s =>
    exfalso
    have e : a.add 0 = a := by unfold Addr.add; simp
    rw [e] at h0
    simp [World.cell?, hs] at h0
    split at h0 <;> simp_all
theorem slice_ok {t e : TypeId} {c : Value} {ts : List TypeId} (f : Nat) {base : Nat} {held : Bool} {fuel : Nat} {x : DataW H × List MemPlace} (ht : P.underlying t = some (.slice e)) (hl : leaves2 P f e = some ts) (hC : P.cellsOf e = ts.length) (hp : 0 < ts.length)
    (h : DataW.trod enc P w base (fun _ => true) held fuel t [c] = some x) (hz : Sized P t x.1) :
    ∃ A n c' X, c = .slice A n c' ∧ n ≤ c' ∧ c' ≤ maxLen ∧ c' * P.bytesOf e < 140737488355328 ∧ SliceIs2 enc P w ts A n X ∧ (A = none → c' = 0) := by
  rcases open_slice ht h with ⟨hc, _⟩ | ⟨a, len, cap, m, n, D, Pl, hc, hb, hle, hm, hmm, rfl, hi⟩
  · simp at hc
    exact ⟨none, 0, 0, fun _ => [], hc, Nat.le_refl _, by simp [maxLen], by simp, fun i hi => absurd hi (by omega), fun _ => rfl⟩
  · simp at hc
    subst hc
    simp at hmm
    subst hmm
    obtain ⟨hs1, hs2, hs3⟩ := Sized.slice ht hz
    rw [List.length_map, List.length_map, List.length_range, List.length_range, show len + (m - len) = m by omega] at hs1
    obtain ⟨X, hX⟩ := choose_lt hi
    refine ⟨some a, len, m, X, rfl, hle, hm, Nat.lt_of_le_of_lt hs1 (by decide), fun i hlt => ?_, fun h => by cases h⟩
    obtain ⟨h1, h2⟩ := hX i (by omega)
    rw [hC] at h1
    have hbl := cells?_lt h1 hp
    have has : a.spot = none := by
      have h0 := (hX 0 (by omega)).1
      rw [hC, Nat.zero_mul] at h0
      have e : a.add 0 = a := by unfold Addr.add; simp
      rw [e] at h0
      exact cells?_spot h0 hp
    obtain ⟨_, hlen, hat⟩ := World.cells?_some h1
    refine ⟨a.block, a.off, ?_, ?_, leaves2_ok f hl h2 (hs2 i _ (by simp [hlt])), fun j hj => ?_⟩
    · cases a; simp_all
    · simpa [Addr.add] using (show (a.add (i * ts.length)).block < _ from hbl) |> fun h => by
        unfold Addr.add at h; split at h <;> simpa using h
    · rw [← hat j hj, add_add]
      congr 1
      unfold Addr.add
      cases a
      simp at has
      subst has
      split
      · rename_i h0; simp at h0; simp [h0]
      · rfl
theorem Leaf2.slice {t e : TypeId} {c : Value} {ts : List TypeId} (f : Nat) (ht : P.underlying t = some (.slice e)) (hl : leaves2 P f e = some ts) (hC : P.cellsOf e = ts.length) (hp : 0 < ts.length) (h : Leaf2 enc P w t c) :
    ∃ A n c' X, c = .slice A n c' ∧ n ≤ c' ∧ c' ≤ maxLen ∧ c' * P.bytesOf e < 140737488355328 ∧ SliceIs2 enc P w ts A n X ∧ (A = none → c' = 0) := by
  obtain ⟨base, held, fuel, x, h, hz⟩ := h
  exact slice_ok f ht hl hC hp h hz
/-- An argument that is one cell. -/
theorem open_leaf {t : TypeId} {v : Value} {d : DataW H} {base : Nat} {held : Bool} {ps : List MemPlace} (hc : v.cells.toList = [v]) (h : DataW.Trod enc P w base (fun _ => true) held t v d ps) (hz : Sized P t d) : Leaf2 enc P w t v := by
  obtain ⟨fuel, h⟩ := h
  rw [hc] at h
  exact ⟨base, held, fuel, _, h, hz⟩
/-- An argument that is a struct or an array, by value. -/
theorem open_agg2 {t : TypeId} {v : Value} {d : DataW H} {base : Nat} {held : Bool} {ps : List MemPlace} {ts : List TypeId} (f : Nat) (hl : leaves2 P f t = some ts) (h : DataW.Trod enc P w base (fun _ => true) held t v d ps) (hz : Sized P t d) : Leafs2 enc P w ts v.cells.toList := by
  obtain ⟨fuel, h⟩ := h
  exact leaves2_ok f hl h hz
/-- A slice argument. -/
theorem arg_one {r : Reach} {b0 : Nat} {t e : TypeId} {v : Value} (ht : P.underlying t = some (.slice e)) (hv : Value.okWide P w r b0 t v) : v.cells.toList = [v] := by
  cases v <;> simp_all [Value.okWide, Cell.okWide, Cell.ok, Value.cells]
theorem slice_arg {t e : TypeId} {v : Value} {d : DataW H} {base : Nat} {held : Bool} {ps : List MemPlace} {ts : List TypeId} (f : Nat) (ht : P.underlying t = some (.slice e)) (hl : leaves2 P f e = some ts) (hC : P.cellsOf e = ts.length) (hp : 0 < ts.length)
    (hc : v.cells.toList = [v]) (h : DataW.Trod enc P w base (fun _ => true) held t v d ps) (hz : Sized P t d) :
    ∃ A n c' X, v = .slice A n c' ∧ n ≤ c' ∧ c' ≤ maxLen ∧ c' * P.bytesOf e < 140737488355328 ∧ SliceIs2 enc P w ts A n X ∧ (A = none → c' = 0) :=
  (open_leaf hc h hz).slice f ht hl hC hp
/-- A struct or an array argument. -/
theorem agg_arg {r : Reach} {b0 : Nat} {t : TypeId} {v : Value} {d : DataW H} {base : Nat} {held : Bool} {ps : List MemPlace} {ts : List TypeId} (f : Nat) (hst : isRow (P.underlying t) = true) (hl : leaves2 P f t = some ts)
    (hv : Value.okWide P w r b0 t v) (h : DataW.Trod enc P w base (fun _ => true) held t v d ps) (hz : Sized P t d) : ∃ cs : List Value, v = .agg cs.toArray ∧ Leafs2 enc P w ts cs := by
  have h1 := open_agg2 f hl h hz
  have h' : ∃ cs, v = .agg cs := by
    unfold Value.okWide at hv
    unfold isRow at hst
    split at hv
    · exact ⟨_, hv.choose_spec.1⟩
    · exact ⟨_, hv.choose_spec.1⟩
    · split at hst
      · simp_all
      · simp_all
      · cases hst
  obtain ⟨cs, rfl⟩ := h'
  exact ⟨cs.toList, by simp, h1⟩
end
end Go
