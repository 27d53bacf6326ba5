import Derived.WalkKit
import Derived.KernelRfl
import Derived.RowKit3
import Derived.Handy
import Derived.Outline
import Derived.Deep.QuietTactic
import Derived.BigQuiet
import Derived.WalkLawsBesides
import Derived.WalkSpells
import Derived.Deep.DeepCutAuto
import Derived.Deep.CutBlock
namespace Go
open Go.RowKit
set_option linter.unusedSimpArgs false
set_option linter.unusedVariables false
set_option maxRecDepth 100000
/-- What a call adds to a world: blocks behind; and the count of draws behind it. -/
structure Pad where
  objs : Array Obj
  draws : Nat
instance : Inhabited Pad := ⟨⟨#[], 0⟩⟩
def Pad.join (g h : Pad) : Pad := ⟨g.objs ++ h.objs, h.draws⟩
def Pad.size (g : Pad) : Nat := g.objs.size
/-- The world with more blocks behind, and another count of draws. -/
def World.grow (w : World) (g : Pad) : World := { w with heap := w.heap ++ g.objs, drawn := g.draws }
@[simp, go_sem] theorem World.grow_grow (w : World) (g h : Pad) : (w.grow g).grow h = w.grow (g.join h) := by simp [World.grow, Pad.join]
@[simp, go_sem] theorem World.size_grow (w : World) (g : Pad) : (w.grow g).heap.size = w.heap.size + g.size := by simp [World.grow, Pad.size]
@[simp, go_sem] theorem World.tape_grow (w : World) (g : Pad) : (w.grow g).tape = w.tape := rfl
theorem World.grow_get (w : World) (g : Pad) {b : Nat} (h : b < w.heap.size) : (w.grow g).heap[b]? = w.heap[b]? := by
  simp only [World.grow]; rw [Array.getElem?_append_left h]
@[simp, go_sem] theorem World.cell?_grow (w : World) (g : Pad) {b o : Nat} (h : b < w.heap.size) : (w.grow g).cell? ⟨b, o, none⟩ = w.cell? ⟨b, o, none⟩ :=
  World.cell?_of_block (w := w) (World.grow_get w g h)
@[simp, go_sem] theorem World.frozen?_grow (w : World) (g : Pad) {b o : Nat} (h : b < w.heap.size) : (w.grow g).frozen? ⟨b, o, none⟩ = w.frozen? ⟨b, o, none⟩ :=
  World.frozen?_of_block (w := w) (World.grow_get w g h)
theorem World.grow_self (w : World) : w = w.grow ⟨#[], w.drawn⟩ := by
  show w = { w with heap := w.heap ++ #[], drawn := w.drawn }
  rw [Array.append_empty]
theorem World.drew_grow (w : World) : w.drew = w.grow ⟨#[], w.drawn + 1⟩ := by
  show ({ w with drawn := w.drawn + 1 } : World) = { w with heap := w.heap ++ #[], drawn := w.drawn + 1 }
  rw [Array.append_empty]
@[simp, go_sem] theorem World.grow_drew (w : World) (g : Pad) : (w.grow g).drew = w.grow ⟨g.objs, g.draws + 1⟩ := rfl
theorem World.drewN_grow (w : World) (m : Nat) : w.drewN m = w.grow ⟨#[], w.drawn + m⟩ := by
  show ({ w with drawn := w.drawn + m } : World) = { w with heap := w.heap ++ #[], drawn := w.drawn + m }
  rw [Array.append_empty]
theorem World.alloc_grow (w : World) (o : Obj) : w.alloc o = w.grow ⟨#[o], w.drawn⟩ := rfl

/-- 'w'' is 'w' with more blocks and draws. -/
def Grows (w w' : World) : Prop := ∃ g, w' = w.grow g
theorem Grows.refl (w : World) : Grows w w := ⟨_, World.grow_self w⟩
theorem Grows.trans {a b c : World} : Grows a b → Grows b c → Grows a c := by
  rintro ⟨g, rfl⟩ ⟨h, rfl⟩; exact ⟨g.join h, World.grow_grow _ _ _⟩
theorem Grows.of (w : World) (g : Pad) : Grows w (w.grow g) := ⟨g, rfl⟩
theorem Grows.alloc {a w : World} (h : Grows a w) (o : Obj) : Grows a (w.alloc o) := h.trans ⟨_, World.alloc_grow _ _⟩
theorem Grows.drew {a w : World} (h : Grows a w) : Grows a w.drew := h.trans ⟨_, World.drew_grow _⟩
theorem Grows.drewN {a w : World} (h : Grows a w) (n : Nat) : Grows a (w.drewN n) := h.trans ⟨_, World.drewN_grow _ _⟩
theorem Grows.grow {a w : World} (h : Grows a w) (g : Pad) : Grows a (w.grow g) := h.trans ⟨_, rfl⟩
theorem Grows.below {w w' : World} (h : Grows w w') : Below w.heap.size w w' := by
  obtain ⟨g, rfl⟩ := h
  exact ⟨rfl, rfl, rfl, by simp, fun k hk => World.grow_get w g hk⟩

/-- A region that draws, walked once, in the order of the text: what is there may be read; a call may make memory. -/
theorem wp_region_grow {P : Program} {id : Nat} {Q : Exit → Act → World → Prop} {a : Act} {w : World} {l : List Oper} (hm : P.follows .mixedOrders = true) (hB : Region.lexB .any l.toArray = true)
    (h : wpQuiet P l.toArray (fun w' => ∃ g, w' = w.grow g) (fun a' => ∀ w', (∃ g, w' = w.grow g) → Q .normal a' w') l a) : (Code.region id l.toArray true).wp P Q a w :=
  wp_region_quiet (C := fun w' => ∃ g, w' = w.grow g) hm hB ⟨_, World.drew_grow w⟩ (by simpa using h)
theorem Pad.join_assoc (a b c : Pad) : (a.join b).join c = a.join (b.join c) := by simp [Pad.join]
/-- A callee that makes memory, in such a region. -/
theorem Calls.quiet_grow0 {P : Program} {f : FuncId} {args : Array Value} {w : World} {g : Pad} {v : Value}
    (h : Calls P f args (w.grow g) fun e w' => e = .returned v ∧ Grows (w.grow g) w') : Calls P f args (w.grow g) fun e w'' => e = .returned v ∧ ∃ h, w'' = w.grow h :=
  h.mono fun _ _ ⟨he, hm⟩ => ⟨he, (Grows.of _ _).trans hm⟩
theorem Calls.quiet_grow {P : Program} {f : FuncId} {args : Array Value} {w : World} {G g : Pad} {v : Value}
    (h : Calls P f args (w.grow (G.join g)) fun e w' => e = .returned v ∧ Grows (w.grow (G.join g)) w') :
    Calls P f args (w.grow (G.join g)) fun e w'' => e = .returned v ∧ ∃ h, w'' = w.grow (G.join h) :=
  h.mono fun _ _ ⟨he, k, hk⟩ => ⟨he, g.join k, by rw [hk, World.grow_grow, Pad.join_assoc]⟩

theorem Grows.get {w w' : World} (h : Grows w w') {b : Nat} (hb : b < w.heap.size) : w'.heap[b]? = w.heap[b]? := by
  obtain ⟨g, rfl⟩ := h; exact World.grow_get w g hb
theorem Grows.cell {w w' : World} (h : Grows w w') {b o : Nat} (hb : b < w.heap.size) : w'.cell? ⟨b, o, none⟩ = w.cell? ⟨b, o, none⟩ := by
  obtain ⟨g, rfl⟩ := h; exact World.cell?_grow w g hb
theorem Grows.frozen {w w' : World} (h : Grows w w') {b o : Nat} (hb : b < w.heap.size) : w'.frozen? ⟨b, o, none⟩ = w.frozen? ⟨b, o, none⟩ := by
  obtain ⟨g, rfl⟩ := h; exact World.frozen?_grow w g hb
theorem Grows.size {w w' : World} (h : Grows w w') : w.heap.size ≤ w'.heap.size := by
  obtain ⟨g, rfl⟩ := h; simp
theorem Grows.lt {w w' : World} (h : Grows w w') {b : Nat} (hb : b < w.heap.size) : b < w'.heap.size := Nat.lt_of_lt_of_le hb h.size
theorem Grows.of_heap {a b : World} (ho : b.os = a.os) (ht : b.tape = a.tape) (hp : b.output = a.output) (hs : a.heap.size ≤ b.heap.size)
    (hh : ∀ k, k < a.heap.size → b.heap[k]? = a.heap[k]?) : Grows a b := by
  refine ⟨⟨b.heap.extract a.heap.size b.heap.size, b.drawn⟩, ?_⟩
  have e : a.heap ++ b.heap.extract a.heap.size b.heap.size = b.heap := by
    apply Array.ext_getElem?
    intro i
    rcases Nat.lt_or_ge i a.heap.size with h | h
    · rw [Array.getElem?_append_left h, hh i h]
    · rw [Array.getElem?_append_right h, Array.getElem?_extract]
      split
      · congr 1; omega
      · rw [Array.getElem?_eq_none]; omega
  cases a; cases b
  simp only [World.grow] at *
  subst ho ht hp
  rw [e]
/-- A store into a block of one's own. -/
theorem Grows.setCell {a w : World} (h : Grows a w) {p : Addr} (hp : a.heap.size ≤ p.block) (v : Value) : Grows a (w.setCell p v) := by
  obtain ⟨g, rfl⟩ := h
  refine Grows.of_heap rfl rfl rfl (by simp [World.setCell, World.grow]) (fun k hk => ?_)
  rw [Below.heap_setCell _ _ _ _ (by omega), World.grow_get a g hk]

/-- A block of cells that is known whole, and may be written. -/
def Row (w : World) (b : Nat) (c : Array Value) (t : TypeId) : Prop := w.heap[b]? = some (.cells c t (0, 0))
theorem Row.cell {w : World} {b : Nat} {c : Array Value} {t : TypeId} (h : Row w b c t) (i : Nat) : w.cell? ⟨b, i, none⟩ = c[i]? := by
  unfold Row at h; simp [World.cell?, h]
theorem Row.frozen {w : World} {b : Nat} {c : Array Value} {t : TypeId} (h : Row w b c t) (i : Nat) : w.frozen? ⟨b, i, none⟩ = false := by
  unfold Row at h; simp [World.frozen?, h]
theorem Row.lt {w : World} {b : Nat} {c : Array Value} {t : TypeId} (h : Row w b c t) : b < w.heap.size := by
  rcases Nat.lt_or_ge b w.heap.size with h' | h'
  · exact h'
  · unfold Row at h; rw [Array.getElem?_eq_none h'] at h; cases h
theorem Row.grows {w w' : World} {b : Nat} {c : Array Value} {t : TypeId} (h : Row w b c t) (hg : Grows w w') : Row w' b c t := by
  unfold Row at *; rw [hg.get (Row.lt h)]; exact h
theorem Row.new (w : World) (c : Array Value) (t : TypeId) : Row (w.alloc (.cells c t)) w.heap.size c t := by
  unfold Row World.alloc; simp
theorem Row.new_at (w : World) (c : Array Value) (t : TypeId) {b : Nat} (hb : b = w.heap.size) : Row (w.alloc (.cells c t)) b c t := by
  subst hb; exact Row.new w c t
theorem Grows.of_below {w w' : World} (h : Below w.heap.size w w') : Grows w w' := Grows.of_heap h.os h.tape h.output h.size h.block
/-- Behind an append to a slice of one's own. -/
theorem Grows.grown {a w w' : World} {row : Option Nat} (h : Grows a w) (hg : w.grownBy w' row) (hr : ∀ k, row = some k → a.heap.size ≤ k) : Grows a w' :=
  Grows.of_below (h.below.grown hg h.size hr)
theorem ownsRow_block {w : World} {base size n : Nat} {e : TypeId} {v : Value} {xs : List Value} (h : w.ownsRow base e size v n xs) : ∀ b, v.ownBlock = some b → base ≤ b := by
  intro b hb
  rcases h.2 with ⟨rfl, _⟩ | ⟨g, cap, cur, rfl, hg, _⟩
  · cases hb
  · cases hb; exact hg
end Go
