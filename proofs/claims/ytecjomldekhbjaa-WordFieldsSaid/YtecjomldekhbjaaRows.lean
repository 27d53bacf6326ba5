/-
  No cell of these rows narrows 'for every input' (looked for: loops, veiled, ifaces, maps, wideKeys, modest, calm, conditions, laid).
  DERIVED. THE GIVEN ROWS OF THIS SEAT. 4 by the template 'for every input the law returns true; each argument reads behind the call as it read before'; 0 by the template 'total and deterministic' (their statements: YtecjomldekhbjaaTotals.lean).
  GIVEN WITH THE SEED: the statements are not yours to turn. If you find one false, say at which input.
  Laid BY PROGRAM, IN A SANDBOX (cutbox-rows.mjs): the forced cells as the released guide's own fill.sh prints them over the translation 6396cd90a956a12a… (all of the seat's roots in one cut). By AI agents, Wed Nov 11 2026. No macro, syntax, notation, axiom, sorry.
-/
import Derived.Test.YtecjomldekhbjaaChecked
import GoSem.Claim
import GoSem.ClaimJoined
import GoSem.ClaimMapViews
import Derived.JoinedTies
import Derived.KernelRfl
namespace Go.Proofs.Ytecjomldekhbjaa
/- THE CELL 'sum', in the pinned program and in every row, IS THE sha256 OF THE DUMP (.gsa) THAT YtecjomldekhbjaaProg.lean LOADS. Nothing in Lean hashes anything: it is a label: what it is worth is what the hold of that sum in a sandbox is worth. -/
noncomputable def Try.pinned : Pinned := { name := "ytecjomldekhbjaa", sum := "6396cd90a956a12a7fb66411eee26b0e43452fa0e6cc6238ef75366d85d53db5", checked := Try.checked }
namespace Rows
def none {H : Type} : Left H := { results := [], args := [] }

/-- 'palisadelaw05.EntryAllows': WHATEVER THE INPUT: true; the input reads as it did. -/
def entryAllowsSpec : ChangeSpec := { name := "entryAllows", fn := fun _ => fun
  | [d1, d2] => { results := [.lit (.bool true)], args := [d1, d2] }
  | _ => none }
def entryAllowsRow : OpenClaim := { program := "ytecjomldekhbjaa", sum := "6396cd90a956a12a7fb66411eee26b0e43452fa0e6cc6238ef75366d85d53db5", func := "palisade/palisadelaw05.EntryAllows", spec := "entryAllows", apart := false }
def EntryAllowsSaid : Prop := entryAllowsRow.holds Try.pinned (OpenSpec.ofChange entryAllowsSpec)

/-- ITS FALSE NEIGHBOUR: 'it returns false'. Refute it at one input. -/
def entryAllowsWrong : ChangeSpec := { name := "entryAllows", fn := fun _ => fun
  | [d1, d2] => { results := [.lit (.bool false)], args := [d1, d2] }
  | _ => none }
def EntryAllowsWrongFalsely : Prop := entryAllowsRow.holds Try.pinned (OpenSpec.ofChange entryAllowsWrong)

/-- 'palisadelaw01.WordFields': WHATEVER THE INPUT: true; the input reads as it did. -/
def wordFieldsSpec : ChangeSpec := { name := "wordFields", fn := fun _ => fun
  | [d1, d2, d3] => { results := [.lit (.bool true)], args := [d1, d2, d3] }
  | _ => none }
def wordFieldsRow : OpenClaim := { program := "ytecjomldekhbjaa", sum := "6396cd90a956a12a7fb66411eee26b0e43452fa0e6cc6238ef75366d85d53db5", func := "palisade/palisadelaw01.WordFields", spec := "wordFields", apart := false }
def WordFieldsSaid : Prop := wordFieldsRow.holds Try.pinned (OpenSpec.ofChange wordFieldsSpec)

/-- ITS FALSE NEIGHBOUR: 'it returns false'. Refute it at one input. -/
def wordFieldsWrong : ChangeSpec := { name := "wordFields", fn := fun _ => fun
  | [d1, d2, d3] => { results := [.lit (.bool false)], args := [d1, d2, d3] }
  | _ => none }
def WordFieldsWrongFalsely : Prop := wordFieldsRow.holds Try.pinned (OpenSpec.ofChange wordFieldsWrong)

/-- 'palisadelaw01.WordOrder': WHATEVER THE INPUT: true; the input reads as it did. -/
def wordOrderSpec : ChangeSpec := { name := "wordOrder", fn := fun _ => fun
  | [d1, d2, d3] => { results := [.lit (.bool true)], args := [d1, d2, d3] }
  | _ => none }
def wordOrderRow : OpenClaim := { program := "ytecjomldekhbjaa", sum := "6396cd90a956a12a7fb66411eee26b0e43452fa0e6cc6238ef75366d85d53db5", func := "palisade/palisadelaw01.WordOrder", spec := "wordOrder", apart := false }
def WordOrderSaid : Prop := wordOrderRow.holds Try.pinned (OpenSpec.ofChange wordOrderSpec)

/-- ITS FALSE NEIGHBOUR: 'it returns false'. Refute it at one input. -/
def wordOrderWrong : ChangeSpec := { name := "wordOrder", fn := fun _ => fun
  | [d1, d2, d3] => { results := [.lit (.bool false)], args := [d1, d2, d3] }
  | _ => none }
def WordOrderWrongFalsely : Prop := wordOrderRow.holds Try.pinned (OpenSpec.ofChange wordOrderWrong)

/-- 'palisadelaw01.WordMath': WHATEVER THE INPUT: true; the input reads as it did. -/
def wordMathSpec : ChangeSpec := { name := "wordMath", fn := fun _ => fun
  | [d1, d2, d3] => { results := [.lit (.bool true)], args := [d1, d2, d3] }
  | _ => none }
def wordMathRow : OpenClaim := { program := "ytecjomldekhbjaa", sum := "6396cd90a956a12a7fb66411eee26b0e43452fa0e6cc6238ef75366d85d53db5", func := "palisade/palisadelaw01.WordMath", spec := "wordMath", apart := false }
def WordMathSaid : Prop := wordMathRow.holds Try.pinned (OpenSpec.ofChange wordMathSpec)

/-- ITS FALSE NEIGHBOUR: 'it returns false'. Refute it at one input. -/
def wordMathWrong : ChangeSpec := { name := "wordMath", fn := fun _ => fun
  | [d1, d2, d3] => { results := [.lit (.bool false)], args := [d1, d2, d3] }
  | _ => none }
def WordMathWrongFalsely : Prop := wordMathRow.holds Try.pinned (OpenSpec.ofChange wordMathWrong)

/- THE SECOND FORM. 'bulk': how many values and letters a reading holds, each counted each time it is reached (what is shared counts as often as it is met; a slice's spare places count too). A statement '..UptoSaid' is the law's where the arguments, and the package variables that the reading takes, are together of bulk at most 1048576: NARROWER than '..Said'. Prove '..Said' where nothing that the law and all that it calls make is longer than what came in: it says more and counts as full. Else prove '..UptoSaid'. A law counts once. -/
mutual
def uptoBulk {H : Type} : DataW H → Nat
  | .lit (.string bytes) => bytes.length + 1
  | .lit _ => 1
  | .nil => 1
  | .ptr d => uptoBulk d + 1
  | .slice elems spare => uptoBulkAll elems + uptoBulkAll spare + 1
  | .agg parts => uptoBulkAll parts + 1
  | .iface _ d => uptoBulk d + 1
  | .map entries => uptoBulkEntries entries + 1
  | .held _ => 1
def uptoBulkAll {H : Type} : List (DataW H) → Nat
  | [] => 0
  | d :: r => uptoBulk d + uptoBulkAll r
def uptoBulkEntries {H : Type} : List (Lit × DataW H) → Nat
  | [] => 0
  | x :: r => uptoBulkEntry x + uptoBulkEntries r
def uptoBulkEntry {H : Type} : Lit × DataW H → Nat
  | (.string bytes, d) => bytes.length + uptoBulk d + 1
  | (_, d) => uptoBulk d + 1
 end
def uptoSmall : (H : Type) → List (DataW H) → Bool := fun _ ds => decide (uptoBulkAll ds ≤ 1048576)
def OpenSpec.upto (s : _root_.Go.ChangeSpec) : _root_.Go.OpenSpec := { _root_.Go.OpenSpec.ofChange s with cond := some uptoSmall }

/-- 'palisadelaw05.EntryAllows', WHERE WHAT IT READS IS OF BULK AT MOST 1048576: true; the input reads as it did. -/
def entryAllowsUptoRow : OpenClaim := { program := "ytecjomldekhbjaa", sum := "6396cd90a956a12a7fb66411eee26b0e43452fa0e6cc6238ef75366d85d53db5", func := "palisade/palisadelaw05.EntryAllows", spec := "entryAllows", apart := false, narrowed := true }
def EntryAllowsUptoSaid : Prop := entryAllowsUptoRow.holds Try.pinned (OpenSpec.upto entryAllowsSpec)

/-- 'palisadelaw01.WordFields', WHERE WHAT IT READS IS OF BULK AT MOST 1048576: true; the input reads as it did. -/
def wordFieldsUptoRow : OpenClaim := { program := "ytecjomldekhbjaa", sum := "6396cd90a956a12a7fb66411eee26b0e43452fa0e6cc6238ef75366d85d53db5", func := "palisade/palisadelaw01.WordFields", spec := "wordFields", apart := false, narrowed := true }
def WordFieldsUptoSaid : Prop := wordFieldsUptoRow.holds Try.pinned (OpenSpec.upto wordFieldsSpec)

/-- 'palisadelaw01.WordOrder', WHERE WHAT IT READS IS OF BULK AT MOST 1048576: true; the input reads as it did. -/
def wordOrderUptoRow : OpenClaim := { program := "ytecjomldekhbjaa", sum := "6396cd90a956a12a7fb66411eee26b0e43452fa0e6cc6238ef75366d85d53db5", func := "palisade/palisadelaw01.WordOrder", spec := "wordOrder", apart := false, narrowed := true }
def WordOrderUptoSaid : Prop := wordOrderUptoRow.holds Try.pinned (OpenSpec.upto wordOrderSpec)

/-- 'palisadelaw01.WordMath', WHERE WHAT IT READS IS OF BULK AT MOST 1048576: true; the input reads as it did. -/
def wordMathUptoRow : OpenClaim := { program := "ytecjomldekhbjaa", sum := "6396cd90a956a12a7fb66411eee26b0e43452fa0e6cc6238ef75366d85d53db5", func := "palisade/palisadelaw01.WordMath", spec := "wordMath", apart := false, narrowed := true }
def WordMathUptoSaid : Prop := wordMathUptoRow.holds Try.pinned (OpenSpec.upto wordMathSpec)

end Rows
end Go.Proofs.Ytecjomldekhbjaa
