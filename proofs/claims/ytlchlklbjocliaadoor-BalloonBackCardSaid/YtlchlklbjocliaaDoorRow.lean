import Derived.ProofKit
import Derived.OpenShut
import Derived.ChangeOld
import Derived.Below
import Derived.SizedLaws
import Derived.Carry
import Derived.KernelRfl
namespace Go
open Go.ChangeShapes Go.WideShapes Go.ChangeAt Go.RowKit

theorem law_trodAll {H : Type} {enc : TypeId × Value → H} {P : Program} (hl : laidOutB P = true) {W W' : World} (hb : Below W.heap.size W W') :
    ∀ {ts : List TypeId} {vs : List Value} {ds : List (DataW H)} {ps : List MemPlace}, (∀ t ∈ ts, P.readableRec t = true ∧ t < P.types.size) →
      DataW.TrodAll enc P W 0 (fun _ => true) true ts vs ds ps → (∀ x ∈ ps, x.block < W.heap.size) →
      DataW.TrodAll enc P W' 0 (fun b => decide (b < W.heap.size)) true ts vs ds ps
  | [], [], [], _, _, h, _ => h
  | t :: ts, v :: vs, d :: ds, _, hr, ⟨p, q, h1, h2, e⟩, hlt =>
    ⟨p, q, Below.trod hl (hr t (by simp)).1 (hr t (by simp)).2 h1 hb (fun x hx => hlt x (by rw [e]; exact List.mem_append_left _ hx)),
      law_trodAll hl hb (fun t ht => hr t (by simp [ht])) h2 (fun x hx => hlt x (by rw [e]; exact List.mem_append_right _ hx)), e⟩
  | [], [], _ :: _, _, _, h, _ => h.elim
  | [], _ :: _, _, _, _, h, _ => h.elim
  | _ :: _, [], _, _, _, h, _ => h.elim
  | _ :: _, _ :: _, [], _, _, h, _ => h.elim

theorem law_trodAll_len {H : Type} {enc : TypeId × Value → H} {P : Program} {W : World} {b : Nat} {sp : Nat → Bool} {hd : Bool} :
    ∀ {ts : List TypeId} {vs : List Value} {ds : List (DataW H)} {ps : List MemPlace}, DataW.TrodAll enc P W b sp hd ts vs ds ps → vs.length = ts.length ∧ ds.length = ts.length
  | [], [], [], _, _ => ⟨rfl, rfl⟩
  | t :: ts, v :: vs, d :: ds, _, ⟨p, q, _, h2, _⟩ => by have := law_trodAll_len h2; simp [this]
  | [], [], _ :: _, _, h => h.elim
  | [], _ :: _, _, _, h => h.elim
  | _ :: _, [], _, _, h => h.elim
  | _ :: _, _ :: _, [], _, h => h.elim

/-- A law's contract, out of its walk: for all arguments that can be read it returns true, and nothing that was there has turned. -/
theorem law_contract {P : Program} {H : Type} {enc : TypeId × Value → H} {f : FuncId} {fn : Func} {s : ChangeSpec} {tb : TypeId}
    (hvars : s.vars = []) (hl : laidOutB P = true)
    (hread : (fn.params.toList.all fun t => P.readableRec t && decide (t < P.types.size)) = true) (hres : fn.resultTypes = #[tb]) (htb : P.underlying tb = some .bool)
    (hspec : ∀ ds : List (DataW H), ds.length = fn.params.toList.length → s.fn H ds = { results := [.lit (.bool true)], args := ds })
    (W : World) (args : Array Value) (ds gs : List (DataW H)) (before : List MemPlace)
    (hW : DataW.Whole enc P fn.params.toList s.vars false W args.toList ds gs before)
    (hsz : (DataW.weightsEach P (fn.params.toList ++ s.plain.varTypes P) (ds ++ gs)).all (· ≤ reachBytes) = true)
    (walk : ∀ (ps : List MemPlace), DataW.TrodAll enc P W 0 (fun _ => true) true fn.params.toList args.toList ds ps → (∀ x ∈ ps, x.block < W.heap.size) →
      (DataW.weightsEach P fn.params.toList ds).all (· ≤ reachBytes) = true → args.size = fn.params.size →
      Calls P f args W fun e W' => e = .returned (.bool true) ∧ Below W.heap.size W W') :
    Calls P f args W fun e W' => ∃ v, e = .returned v ∧ s.post enc P fn false true false false W args v W' := by
  have hW' := hW
  obtain ⟨p, q, hA, hV, rfl, hfz, hnd⟩ := hW
  have hv : s.plain.varTypes P = [] := by unfold ChangeSpec.plain DataSpec.varTypes; simp [hvars]
  rw [hvars] at hV
  obtain ⟨rfl, rfl⟩ := trodVars_none hV
  rw [hv, List.append_nil, List.append_nil] at hsz
  have hlen := law_trodAll_len hA
  have hlt : ∀ x ∈ p, x.block < W.heap.size := hA.lt
  refine (walk p hA hlt hsz (by simpa using hlen.1)).mono fun e W' ⟨he, bel⟩ => ?_
  subst he
  have hsp := hspec ds hlen.2
  refine ⟨_, rfl, ds, [], p ++ [], [], p, [], hW', ?_, ?_, ?_, bel.frame _, fun h => by cases h⟩
  · rw [List.append_nil, hsp, hres]; exact trodAll_mk1 (shut_bool htb _)
  · rw [List.append_nil, hsp]
    refine law_trodAll hl bel (fun t ht => ?_) hA hlt
    have := List.all_eq_true.mp hread t ht
    simpa using this
  · rw [List.append_nil, hsp, hvars]; rfl
/-- A law's row, out of its walk. -/
theorem law_lifted {C : Checked} {os : Os} (started : os.Started) {H : Type} {enc : TypeId × Value → H} {f : FuncId} {fn : Func} {s : ChangeSpec} {tb : TypeId}
    (own : ownKnob C.prog.godebug = none) (noInit : C.prog.inits.idxOf? f = none) (hfn : C.prog.funcs[f]? = some fn) (hvars : s.vars = []) (hl : laidOutB C.prog = true)
    (hread : (fn.params.toList.all fun t => C.prog.readableRec t && decide (t < C.prog.types.size)) = true) (hres : fn.resultTypes = #[tb]) (htb : C.prog.underlying tb = some .bool)
    (hspec : ∀ ds : List (DataW H), ds.length = fn.params.toList.length → s.fn H ds = { results := [.lit (.bool true)], args := ds })
    (witness : ∃ (w : World) (tape : Tape) (i : Input), w.os = os ∧ (w.forCall tape i).Shaped C.prog ∧ i.vars = [] ∧ Input.okWide C.prog (w.forCall tape i) .any w.heap.size f i ∧
      s.pre6 enc C.prog fn [] false (w.forCall tape i).memory i.args ∧ Assume.holds {} C.prog (lone (Frame.enter C.prog f i.args .normal) [] (w.forCall tape i)))
    (walk : ∀ (W : World) (base : Nat) (args : Array Value) (ds : List (DataW H)) (ps : List MemPlace),
      (∀ (j : Nat) t v, fn.params[j]? = some t → args[j]? = some v → Value.okWide C.prog W .any base t v) →
      DataW.TrodAll enc C.prog W 0 (fun _ => true) true fn.params.toList args.toList ds ps → (∀ x ∈ ps, x.block < W.heap.size) →
      (DataW.weightsEach C.prog fn.params.toList ds).all (· ≤ reachBytes) = true → args.size = fn.params.size →
      Calls C.prog f args W fun e W' => e = .returned (.bool true) ∧ Below W.heap.size W W') :
    ReturnsInHanded {} C os f .any (s.pre6 enc C.prog fn [] false) (s.post enc C.prog fn false true false false) := by
  refine returnsInHanded_of_change_sized (C := C) own started noInit hfn witness ?_
  intro W base args ds gs before hval hW _ hsz _
  exact law_contract hvars hl hread hres htb hspec W args ds gs before hW hsz (fun ps hA hlt hz hn => walk W base args ds ps hval hA hlt hz hn)
theorem cell_block_lt {w : World} {b o : Nat} {v : Value} (h : w.cell? ⟨b, o, none⟩ = some v) : b < w.heap.size := by
  rcases Nat.lt_or_ge b w.heap.size with h' | h'
  · exact h'
  · simp [World.cell?, Array.getElem?_eq_none h'] at h

/-! Opening an argument by its typed form alone. -/
def CellsOk (P : Program) (w : World) (r : Reach) (b : Nat) : List TypeId → List Value → Prop
  | [], [] => True
  | t :: ts, c :: cs => Cell.okWide P w r b t c ∧ CellsOk P w r b ts cs
  | _, _ => False
theorem cellsOk_cons {P : Program} {w : World} {r : Reach} {b : Nat} {t : TypeId} {ts : List TypeId} {cs : List Value} (h : CellsOk P w r b (t :: ts) cs) :
    ∃ c cs', cs = c :: cs' ∧ Cell.okWide P w r b t c ∧ CellsOk P w r b ts cs' := by
  cases cs with
  | nil => exact h.elim
  | cons c cs => exact ⟨c, cs, rfl, h.1, h.2⟩
theorem cellsOk_nil {P : Program} {w : World} {r : Reach} {b : Nat} {cs : List Value} (h : CellsOk P w r b [] cs) : cs = [] := by
  cases cs with
  | nil => rfl
  | cons c cs => exact h.elim
theorem cellsOk_of {P : Program} {w : World} {r : Reach} {b : Nat} : ∀ {ts : List TypeId} {cs : List Value}, cs.length = ts.length →
    (∀ (i : Nat) (u : TypeId) (c : Value), ts[i]? = some u → cs[i]? = some c → Cell.okWide P w r b u c) → CellsOk P w r b ts cs
  | [], [], _, _ => trivial
  | t :: ts, c :: cs, hl, h => ⟨h 0 t c rfl rfl, cellsOk_of (by simpa using hl) (fun i u c h1 h2 => h (i + 1) u c (by simpa using h1) (by simpa using h2))⟩
  | [], _ :: _, hl, _ => by simp at hl
  | _ :: _, [], hl, _ => by simp at hl
def isRow : Option TypeDesc → Bool
  | some (.struct _) | some (.array _ _) => true
  | _ => false
theorem open_flat {P : Program} {w : World} {r : Reach} {b : Nat} {t : TypeId} {v : Value} {ts : List TypeId} (hst : isRow (P.underlying t) = true)
    (hct : P.cellTypes P.depth t = some ts) (hn : P.cellsOf t = ts.length) (h : Value.okWide P w r b t v) : ∃ cs : List Value, v = .agg cs.toArray ∧ CellsOk P w r b ts cs := by
  unfold Value.okWide at h
  have h' : ∃ cs, v = .agg cs ∧ cs.size = P.cellsOf t ∧ Row.okWide P w r b t cs := by
    unfold isRow at hst
    split at h
    · exact h
    · exact h
    · split at hst
      · simp_all
      · simp_all
      · cases hst
  obtain ⟨cs, rfl, hs, ts', hct', _, hc⟩ := h'
  obtain rfl : ts = ts' := by rw [hct] at hct'; exact Option.some.inj hct'
  refine ⟨cs.toList, by simp, cellsOk_of (by simpa [hn] using hs) (fun i u c h1 h2 => ?_)⟩
  obtain ⟨u', hu', hok⟩ := hc i c (by simpa using h2)
  have hi : i < ts.length := by
    rcases Nat.lt_or_ge i ts.length with h | h
    · exact h
    · rw [List.getElem?_eq_none h] at h1; cases h1
  rw [Nat.mod_eq_of_lt hi, h1] at hu'
  obtain rfl := Option.some.inj hu'
  exact hok
theorem cell_bool {P : Program} {w : World} {r : Reach} {b : Nat} {t : TypeId} {c : Value} (ht : P.underlying t = some .bool) (h : Cell.okWide P w r b t c) : ∃ x, c = .bool x := by
  unfold Cell.okWide at h
  rw [ht] at h
  cases c <;> simp [Cell.ok, ht] at h
  exact ⟨_, rfl⟩
theorem cell_int {P : Program} {w : World} {r : Reach} {b : Nat} {t : TypeId} {c : Value} {k : IntKind} (ht : P.underlying t = some (.int k)) (h : Cell.okWide P w r b t c) : ∃ n, c = .int k n ∧ (Lit.int k n).wf = true := by
  unfold Cell.okWide at h
  rw [ht] at h
  cases c <;> simp [Cell.ok, ht] at h
  obtain ⟨rfl, h1⟩ := h
  refine ⟨_, rfl, ?_⟩
  simp only [Lit.wf]
  unfold IntKind.has at h1
  simp [h1]
/-- An argument that is one cell. -/
theorem arg_cell {P : Program} {w : World} {r : Reach} {b : Nat} {t : TypeId} {v : Value} (hst : isRow (P.underlying t) = false) (h : Value.okWide P w r b t v) : Cell.okWide P w r b t v := by
  unfold Value.okWide at h
  unfold isRow at hst
  split at h
  · simp_all
  · simp_all
  · exact h
theorem arg_bool {P : Program} {w : World} {r : Reach} {b : Nat} {t : TypeId} {v : Value} (ht : P.underlying t = some .bool) (h : Value.okWide P w r b t v) : ∃ x, v = .bool x :=
  cell_bool ht (arg_cell (by rw [ht]; rfl) h)
theorem arg_int {P : Program} {w : World} {r : Reach} {b : Nat} {t : TypeId} {v : Value} {k : IntKind} (ht : P.underlying t = some (.int k)) (h : Value.okWide P w r b t v) : ∃ n, v = .int k n ∧ (Lit.int k n).wf = true :=
  cell_int ht (arg_cell (by rw [ht]; rfl) h)
/-- A row of cells of one integer kind. -/
theorem cellsOk_ints {P : Program} {w : World} {r : Reach} {b : Nat} {t : TypeId} {k : IntKind} (ht : P.underlying t = some (.int k)) : ∀ (n : Nat) {ts : List TypeId} {cs : List Value}, CellsOk P w r b (List.replicate n t ++ ts) cs →
    ∃ (ns : List Int) (cs' : List Value), cs = ns.map (.int k) ++ cs' ∧ ns.length = n ∧ (∀ x ∈ ns, (Lit.int k x).wf = true) ∧ CellsOk P w r b ts cs'
  | 0, _, cs, h => ⟨[], cs, rfl, rfl, by simp, h⟩
  | n + 1, ts, cs, h => by
    obtain ⟨c, cs1, rfl, hc, h1⟩ := cellsOk_cons (show CellsOk P w r b (t :: (List.replicate n t ++ ts)) cs from h)
    obtain ⟨x, rfl, hx⟩ := cell_int ht hc
    obtain ⟨ns, cs', rfl, hl, hw, h2⟩ := cellsOk_ints ht n h1
    exact ⟨x :: ns, cs', rfl, by simp [hl], by simpa using ⟨hx, hw⟩, h2⟩
/-- The arguments, one by one. -/
theorem args_cons {vs : List Value} {n : Nat} (h : vs.length = n + 1) : ∃ v vs', vs = v :: vs' ∧ vs'.length = n := by
  cases vs with
  | nil => simp at h
  | cons v vs => exact ⟨v, vs, rfl, by simpa using h⟩
end Go
