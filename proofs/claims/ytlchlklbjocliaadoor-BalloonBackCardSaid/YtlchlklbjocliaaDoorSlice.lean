/- An argument that is a slice of structs of plain cells, opened: each element's cells lie in memory, each of its kind. -/
import Derived.Test.YtlchlklbjocliaaDoorRow
import Derived.Deep.Slices
import Derived.OpenShut
namespace Go
open Go.ChangeShapes Go.WideShapes Go.Deep
section
variable {H : Type} {enc : TypeId × Value → H} {P : Program} {w : World} {base : Nat} {spare : Nat → Bool} {held : Bool}
/-- A cell that reads as a datum of its type. -/
def Leaf (enc : TypeId × Value → H) (P : Program) (w : World) (t : TypeId) (c : Value) : Prop := ∃ base spare held fuel, ∃ x : DataW H × List MemPlace, DataW.trod enc P w base spare held fuel t [c] = some x
theorem Leaf.int {t : TypeId} {c : Value} {k : IntKind} (ht : P.underlying t = some (.int k)) (h : Leaf enc P w t c) : ∃ n, c = .int k n ∧ (Lit.int k n).wf = true := by
  obtain ⟨_, _, _, fuel, x, h⟩ := h
  cases fuel with
  | zero => simp [DataW.trod] at h
  | succ m =>
    unfold DataW.trod at h
    rw [ht] at h
    cases c <;> simp at h
    obtain ⟨⟨rfl, h1⟩, _⟩ := h
    exact ⟨_, rfl, h1⟩
theorem Leaf.bool {t : TypeId} {c : Value} (ht : P.underlying t = some .bool) (h : Leaf enc P w t c) : ∃ x, c = .bool x := by
  obtain ⟨_, _, _, fuel, x, h⟩ := h
  cases fuel with
  | zero => simp [DataW.trod] at h
  | succ m =>
    unfold DataW.trod at h
    rw [ht] at h
    cases c <;> simp at h
    exact ⟨_, rfl⟩
def LeafsOk (enc : TypeId × Value → H) (P : Program) (w : World) : List TypeId → List Value → Prop
  | [], [] => True
  | t :: ts, c :: cs => Leaf enc P w t c ∧ LeafsOk enc P w ts cs
  | _, _ => False
theorem LeafsOk.cons {t : TypeId} {ts : List TypeId} {cs : List Value} (h : LeafsOk enc P w (t :: ts) cs) : ∃ c cs', cs = c :: cs' ∧ Leaf enc P w t c ∧ LeafsOk enc P w ts cs' := by
  cases cs with
  | nil => exact h.elim
  | cons c cs => exact ⟨c, cs, rfl, h.1, h.2⟩
theorem LeafsOk.nil {cs : List Value} (h : LeafsOk enc P w [] cs) : cs = [] := by
  cases cs with
  | nil => rfl
  | cons c cs => exact h.elim
theorem LeafsOk.append : ∀ {ts us : List TypeId} {cs ds : List Value}, LeafsOk enc P w ts cs → LeafsOk enc P w us ds → LeafsOk enc P w (ts ++ us) (cs ++ ds)
  | [], _, [], _, _, h => h
  | _ :: _, _, _ :: _, _, h, g => ⟨h.1, LeafsOk.append h.2 g⟩
  | [], _, _ :: _, _, h, _ => h.elim
  | _ :: _, _, [], _, h, _ => h.elim
theorem LeafsOk.length : ∀ {ts : List TypeId} {cs : List Value}, LeafsOk enc P w ts cs → cs.length = ts.length
  | [], [], _ => rfl
  | _ :: _, _ :: _, h => by have := LeafsOk.length h.2; simp [this]
  | [], _ :: _, h => h.elim
  | _ :: _, [], h => h.elim
def leavesF (P : Program) (L : TypeId → Option (List TypeId)) : Nat → List Field → Option (List TypeId)
  | _, [] => some []
  | o, fd :: rest => match L fd.type with
    | some l => if fd.offset = o ∧ P.cellsOf fd.type = l.length then (leavesF P L (o + l.length) rest).map (l ++ ·) else none
    | none => none
/-- The types of the cells of a struct (of structs, of arrays) of numbers and bools. -/
def leaves (P : Program) : Nat → TypeId → Option (List TypeId)
  | 0, _ => none
  | f + 1, t => match P.underlying t with
    | some .bool => some [t]
    | some (.int _) => some [t]
    | some (.struct fs) => (leavesF P (leaves P f) 0 fs.toList).bind fun ts => if P.cellsOf t = ts.length then some ts else none
    | some (.array n e) => (leaves P f e).bind fun l => if P.cellsOf e = l.length ∧ P.cellsOf t = n * l.length then some (List.replicate n l).flatten else none
    | _ => none
theorem leavesF_ok {L : TypeId → Option (List TypeId)} (hL : ∀ {t : TypeId} {ts : List TypeId} {fuel : Nat} {cs : List Value} {x : DataW H × List MemPlace}, L t = some ts → DataW.trod enc P w base spare held fuel t cs = some x → LeafsOk enc P w ts cs) (cs : List Value) {fuel : Nat} :
    ∀ (fl : List Field) (o : Nat) (ts : List TypeId), leavesF P L o fl = some ts → (∀ fd ∈ fl, ∃ x : DataW H × List MemPlace, DataW.trod enc P w base spare held fuel fd.type ((cs.drop fd.offset).take (P.cellsOf fd.type)) = some x) → LeafsOk enc P w ts ((cs.drop o).take ts.length)
  | [], o, ts, h, _ => by
    simp [leavesF] at h; subst h; simp [LeafsOk]
  | fd :: rest, o, ts, h, g => by
    unfold leavesF at h
    cases hl : L fd.type with
    | none => simp [hl] at h
    | some l =>
      simp only [hl] at h
      split at h
      · rename_i hc
        obtain ⟨ho, hn⟩ := hc
        cases hr : leavesF P L (o + l.length) rest with
        | none => simp [hr] at h
        | some r =>
          simp [hr] at h
          subst h
          obtain ⟨x, hx⟩ := g fd (by simp)
          have h1 := hL hl hx
          have h2 := leavesF_ok hL cs rest (o + l.length) r hr (fun f hf => g f (by simp [hf]))
          rw [ho, hn] at h1
          have := h1.append h2
          rw [List.length_append, List.take_add, List.drop_drop]
          exact this
      · cases h
theorem leavesA_ok {l : List TypeId} (cs : List Value) : ∀ (n : Nat), (∀ i, i < n → LeafsOk enc P w l ((cs.drop (i * l.length)).take l.length)) → LeafsOk enc P w (List.replicate n l).flatten (cs.take (n * l.length))
  | 0, _ => by simp [LeafsOk]
  | n + 1, h => by
    have h1 := leavesA_ok cs n (fun i hi => h i (by omega))
    have h2 := h n (by omega)
    have := h1.append h2
    rw [Nat.add_mul, Nat.one_mul, List.take_add, List.replicate_succ', List.flatten_append]
    simpa using this
theorem leaves_ok : ∀ (f : Nat) {t : TypeId} {ts : List TypeId} {fuel : Nat} {cs : List Value} {x : DataW H × List MemPlace}, leaves P f t = some ts → DataW.trod enc P w base spare held fuel t cs = some x → LeafsOk enc P w ts cs
  | 0, _, _, _, _, _, h, _ => by simp [leaves] at h
  | f + 1, t, ts, fuel, cs, x, h, g => by
    unfold leaves at h
    split at h
    · rename_i ht
      simp at h; subst h
      obtain ⟨b, rfl, _⟩ := DataW.trod_bool ht g
      exact ⟨⟨base, spare, held, fuel, x, g⟩, trivial⟩
    · rename_i k ht
      simp at h; subst h
      cases fuel with
      | zero => simp [DataW.trod] at g
      | succ m =>
        have g' := g
        unfold DataW.trod at g'
        rw [ht] at g'
        split at g' <;> simp_all
        exact ⟨⟨base, spare, held, m + 1, x, g⟩, trivial⟩
    · rename_i fs ht
      cases hl : leavesF P (leaves P f) 0 fs.toList with
      | none => simp [hl] at h
      | some us =>
        simp [hl] at h
        obtain ⟨hn, rfl⟩ := h
        obtain ⟨xs, n, _, _, hlen, hxl, hf⟩ := DataW.trod_struct ht g
        have := leavesF_ok (fun {_ _ _ _ _} a b => leaves_ok f a b) cs (fuel := n) fs.toList 0 us hl (fun fd hfd => by
          obtain ⟨j, hj⟩ := List.getElem?_of_mem hfd
          have hj' : fs[j]? = some fd := by simpa using hj
          have hlt : j < fs.size := (Array.getElem?_eq_some_iff.1 hj').1
          exact ⟨xs[j]'(by omega), (hf j fd hj').trans (List.getElem?_eq_getElem (by omega))⟩)
        rw [List.drop_zero, List.take_of_length_le (by omega)] at this
        exact this
    · rename_i n e ht
      cases hl : leaves P f e with
      | none => simp [hl] at h
      | some l =>
        simp [hl] at h
        obtain ⟨⟨he, hn⟩, rfl⟩ := h
        obtain ⟨xs, m, _, _, hlen, hxl, hf⟩ := DataW.trod_array ht g
        have := leavesA_ok (enc := enc) (P := P) (w := w) (l := l) cs n (fun i hi => by
          have h1 := hf i hi
          rw [he, List.getElem?_eq_getElem (by omega)] at h1
          exact leaves_ok f hl h1)
        rw [List.take_of_length_le (by omega)] at this
        exact this
    · cases h
/-- A slice argument opened: `X i` are the cells of element i. -/
def SliceIs (enc : TypeId × Value → H) (P : Program) (w : World) (ts : List TypeId) (A : Option Addr) (n : Nat) (X : Nat → List Value) : Prop :=
  ∀ i, i < n → ∃ b o, A = some ⟨b, o, none⟩ ∧ b < w.heap.size ∧ LeafsOk enc P w ts (X i) ∧ ∀ j, j < ts.length → w.cell? ⟨b, o + (i * ts.length + j), none⟩ = (X i)[j]?
theorem cells?_lt {w : World} {base : Nat} {a : Addr} {n : Nat} {cs : List Value} (h : w.cells? base a n = some cs) (hn : 0 < n) : a.block < w.heap.size := by
  obtain ⟨_, hl, hc⟩ := World.cells?_some h
  have h0 := hc (i := 0) hn
  rcases Nat.lt_or_ge a.block w.heap.size with h' | h'
  · exact h'
  · exfalso
    have : w.cell? (a.add 0) = none := by
      simp [Addr.add, World.cell?, Array.getElem?_eq_none h']
    rw [this, List.getElem?_eq_getElem (by omega)] at h0
    cases h0
theorem open_rows {r : Reach} {b0 : Nat} {t e : TypeId} {v : Value} {d : DataW H} {ps : List MemPlace} {ts : List TypeId} {ts0 : List TypeId} {ds0 : List (DataW H)} (f j0 : Nat) (ht : P.underlying t = some (.slice e)) (hl : leaves P f e = some ts) (hC : P.cellsOf e = ts.length) (hp : 0 < ts.length)
    (hv : Value.okWide P w r b0 t v) (h : DataW.Trod enc P w base (fun _ => true) held t v d ps) (hz : (DataW.weightsEach P ts0 ds0).all (· ≤ reachBytes) = true) (ht0 : ts0[j0]? = some t) (hd0 : ds0[j0]? = some d) :
    ∃ A n c X, v = .slice A n c ∧ n ≤ c ∧ c ≤ maxLen ∧ c * P.bytesOf e < 140737488355328 ∧ SliceIs enc P w ts A n X ∧ (A = none → c = 0) := by
  obtain ⟨fuel, h⟩ := h
  rcases open_slice ht h with ⟨hc, _⟩ | ⟨a, len, cap, m, n, D, Pl, hc, hb, hle, hm, hmm, hx, hi⟩
  · have : v = .slice none 0 0 := by
      cases v <;> simp [Value.cells] at hc <;> simp_all [Value.okWide, Cell.okWide, Cell.ok]
    exact ⟨none, 0, 0, fun _ => [], this, Nat.le_refl _, by simp [maxLen], by simp, fun i hi => absurd hi (by omega), fun _ => rfl⟩
  · have hv' : v = .slice (some a) len cap := by
      cases v <;> simp [Value.cells] at hc <;> simp_all [Value.okWide, Cell.okWide, Cell.ok]
    subst hv'
    have hs : a.spot = none := by
      simp [Value.okWide, Cell.okWide, Cell.ok, ht] at hv
      exact hv.2.2.2.1
    simp at hmm
    subst hmm
    have hsz : m * P.bytesOf e < 140737488355328 := by
      obtain ⟨hd, _⟩ := Prod.mk.inj hx
      have := sized_slice hz ht0 (hd0.trans (congrArg some hd)) ht
      rw [List.length_map, List.length_map, List.length_range, List.length_range, show len + (m - len) = m by omega] at this
      exact Nat.lt_of_le_of_lt this (by decide)
    obtain ⟨X, hX⟩ := choose_lt hi
    refine ⟨some a, len, m, X, rfl, hle, hm, hsz, fun i hlt => ?_, fun h => by cases h⟩
    obtain ⟨h1, h2⟩ := hX i (by omega)
    rw [hC] at h1
    have hbl := cells?_lt h1 hp
    obtain ⟨_, hlen, hat⟩ := World.cells?_some h1
    refine ⟨a.block, a.off, ?_, ?_, leaves_ok f hl h2, fun j hj => ?_⟩
    · cases a; simp_all
    · simpa [Addr.add] using (show (a.add (i * ts.length)).block < _ from hbl) |> fun h => by
        unfold Addr.add at h; split at h <;> simpa using h
    · rw [← hat j hj, add_add]
      congr 1
      unfold Addr.add
      cases a
      simp at hs
      subst hs
      split
      · rename_i h0; simp at h0; simp [h0]
      · rfl
theorem trodAll_cons {t : TypeId} {ts : List TypeId} {v : Value} {vs : List Value} {ds : List (DataW H)} {ps : List MemPlace} (h : DataW.TrodAll enc P w base spare held (t :: ts) (v :: vs) ds ps) :
    ∃ d ds' p q, ds = d :: ds' ∧ DataW.Trod enc P w base spare held t v d p ∧ DataW.TrodAll enc P w base spare held ts vs ds' q := by
  cases ds with
  | nil => exact h.elim
  | cons d ds =>
    obtain ⟨p, q, h1, h2, _⟩ := h
    exact ⟨d, ds, p, q, rfl, h1, h2⟩
end
end Go
