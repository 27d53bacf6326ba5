import Derived.WalkKit
import Derived.KernelRfl
import Derived.RowKit3
import Derived.Handy
import Derived.Outline
import Derived.Deep.QuietTactic
import Derived.BigQuiet
import Derived.WalkLawsBesides
import Derived.WalkSpells
import Derived.Deep.DeepCutAuto
import Derived.Deep.CutBlock
namespace Go
open Go.RowKit
set_option linter.unusedSimpArgs false
set_option linter.unusedVariables false
/-- What a call adds to a world: blocks behind, and draws. -/
structure Pad where
  objs : Array Obj
  draws : Nat
def Pad.none : Pad := ⟨#[], 0⟩
instance : Inhabited Pad := ⟨.none⟩
def Pad.join (g h : Pad) : Pad := ⟨g.objs ++ h.objs, g.draws + h.draws⟩
def Pad.size (g : Pad) : Nat := g.objs.size
/-- The world with more blocks behind, and more draws. -/
def World.grow (w : World) (g : Pad) : World := { w with heap := w.heap ++ g.objs, drawn := w.drawn + g.draws }
theorem World.grow_none (w : World) : w.grow .none = w := by simp [World.grow, Pad.none]
@[simp, go_sem] theorem World.grow_grow (w : World) (g h : Pad) : (w.grow g).grow h = w.grow (g.join h) := by simp [World.grow, Pad.join, Nat.add_assoc]
@[simp, go_sem] theorem World.size_grow (w : World) (g : Pad) : (w.grow g).heap.size = w.heap.size + g.size := by simp [World.grow, Pad.size]
@[simp, go_sem] theorem World.tape_grow (w : World) (g : Pad) : (w.grow g).tape = w.tape := rfl
theorem World.grow_get (w : World) (g : Pad) {b : Nat} (h : b < w.heap.size) : (w.grow g).heap[b]? = w.heap[b]? := by
  simp only [World.grow]; rw [Array.getElem?_append_left h]
@[simp, go_sem] theorem World.cell?_grow (w : World) (g : Pad) {b o : Nat} (h : b < w.heap.size) : (w.grow g).cell? ⟨b, o, none⟩ = w.cell? ⟨b, o, none⟩ :=
  World.cell?_of_block (w := w) (World.grow_get w g h)
@[simp, go_sem] theorem World.frozen?_grow (w : World) (g : Pad) {b o : Nat} (h : b < w.heap.size) : (w.grow g).frozen? ⟨b, o, none⟩ = w.frozen? ⟨b, o, none⟩ :=
  World.frozen?_of_block (w := w) (World.grow_get w g h)
theorem World.drew_grow (w : World) : w.drew = w.grow ⟨#[], 1⟩ := by
  show ({ w with drawn := w.drawn + 1 } : World) = { w with heap := w.heap ++ #[], drawn := w.drawn + 1 }
  rw [Array.append_empty]
@[simp, go_sem] theorem World.grow_drew (w : World) (g : Pad) : (w.grow g).drew = w.grow ⟨g.objs, g.draws + 1⟩ := rfl
theorem World.drewN_grow (w : World) (m : Nat) : w.drewN m = w.grow ⟨#[], m⟩ := by
  show ({ w with drawn := w.drawn + m } : World) = { w with heap := w.heap ++ #[], drawn := w.drawn + m }
  rw [Array.append_empty]
theorem World.alloc_grow (w : World) (o : Obj) : w.alloc o = w.grow ⟨#[o], 0⟩ := rfl

/-- 'w'' is 'w' with more blocks and draws. -/
def Grows (w w' : World) : Prop := ∃ g, w' = w.grow g
theorem Grows.refl (w : World) : Grows w w := ⟨.none, (World.grow_none w).symm⟩
theorem Grows.trans {a b c : World} : Grows a b → Grows b c → Grows a c := by
  rintro ⟨g, rfl⟩ ⟨h, rfl⟩; exact ⟨g.join h, World.grow_grow _ _ _⟩
theorem Grows.of (w : World) (g : Pad) : Grows w (w.grow g) := ⟨g, rfl⟩
theorem Grows.alloc {a w : World} (h : Grows a w) (o : Obj) : Grows a (w.alloc o) := h.trans ⟨_, World.alloc_grow _ _⟩
theorem Grows.drew {a w : World} (h : Grows a w) : Grows a w.drew := h.trans ⟨_, World.drew_grow _⟩
theorem Grows.drewN {a w : World} (h : Grows a w) (n : Nat) : Grows a (w.drewN n) := h.trans ⟨_, World.drewN_grow _ _⟩
theorem Grows.grow {a w : World} (h : Grows a w) (g : Pad) : Grows a (w.grow g) := h.trans ⟨_, rfl⟩
theorem Grows.below {w w' : World} (h : Grows w w') : Below w.heap.size w w' := by
  obtain ⟨g, rfl⟩ := h
  exact ⟨rfl, rfl, rfl, by simp, fun k hk => World.grow_get w g hk⟩

/-- A region that draws, walked once, in the order of the text: what is there may be read; a call may make memory. -/
theorem wp_region_grow {P : Program} {id : Nat} {Q : Exit → Act → World → Prop} {a : Act} {w : World} {l : List Oper} (hm : P.follows .mixedOrders = true) (hB : Region.lexB .any l.toArray = true)
    (h : wpQuiet P l.toArray (fun w' => ∃ g, w' = w.grow g) (fun a' => ∀ w', (∃ g, w' = w.grow g) → Q .normal a' w') l a) : (Code.region id l.toArray true).wp P Q a w :=
  wp_region_quiet (C := fun w' => ∃ g, w' = w.grow g) hm hB ⟨_, World.drew_grow w⟩ (by simpa using h)
theorem Pad.join_assoc (a b c : Pad) : (a.join b).join c = a.join (b.join c) := by simp [Pad.join, Nat.add_assoc]
/-- A callee that makes memory, in such a region. -/
theorem Calls.quiet_grow0 {P : Program} {f : FuncId} {args : Array Value} {w : World} {g : Pad} {v : Value}
    (h : Calls P f args (w.grow g) fun e w' => e = .returned v ∧ Grows (w.grow g) w') : Calls P f args (w.grow g) fun e w'' => e = .returned v ∧ ∃ h, w'' = w.grow h :=
  h.mono fun _ _ ⟨he, hm⟩ => ⟨he, (Grows.of _ _).trans hm⟩
theorem Calls.quiet_grow {P : Program} {f : FuncId} {args : Array Value} {w : World} {G g : Pad} {v : Value}
    (h : Calls P f args (w.grow (G.join g)) fun e w' => e = .returned v ∧ Grows (w.grow (G.join g)) w') :
    Calls P f args (w.grow (G.join g)) fun e w'' => e = .returned v ∧ ∃ h, w'' = w.grow (G.join h) :=
  h.mono fun _ _ ⟨he, k, hk⟩ => ⟨he, g.join k, by rw [hk, World.grow_grow, Pad.join_assoc]⟩
end Go
