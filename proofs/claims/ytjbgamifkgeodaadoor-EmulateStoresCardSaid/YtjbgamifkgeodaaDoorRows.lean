/-
  NARROWER THAN 'FOR EVERY INPUT', by the rows' own cells (each row's printed sentence says how): EmulateDecodes: laid · EmulateStores: laid.
  DERIVED. THE GIVEN ROWS OF THIS SEAT. 2 by the template 'for every input the law returns true; each argument reads behind the call as it read before'; 0 by the template 'total and deterministic' (their statements: YtjbgamifkgeodaaDoorTotals.lean).
  GIVEN WITH THE SEED: the statements are not yours to turn. If you find one false, say at which input.
  Laid BY PROGRAM, IN A SANDBOX (cutbox-rows.mjs): the forced cells as the released guide's own fill.sh prints them over the translation 06fcc8d417f02d47… (all of the seat's roots in one cut). By AI agents, Wed Nov 11 2026. No macro, syntax, notation, axiom, sorry.
-/
import Derived.Test.YtjbgamifkgeodaaDoorChecked
import GoSem.Claim
import GoSem.ClaimJoined
import GoSem.ClaimMapViews
import Derived.JoinedTies
import Derived.KernelRfl
namespace Go.Proofs.YtjbgamifkgeodaaDoor
/- THE CELL 'sum', in the pinned program and in every row, IS THE sha256 OF THE DUMP (.gsa) THAT YtjbgamifkgeodaaDoorProg.lean LOADS. Nothing in Lean hashes anything: it is a label: what it is worth is what the hold of that sum in a sandbox is worth. -/
noncomputable def Tryd.pinned : Pinned := { name := "ytjbgamifkgeodaadoor", sum := "06fcc8d417f02d47513ef3ec2621aa553fd45f319778da8192fec6baf7a60b1b", checked := Tryd.checked }
namespace Rows
def none {H : Type} : Left H := { results := [], args := [] }

/- WHAT THE LISTED PACKAGE-LEVEL VARIABLES READ AS WHEN THE CALL BEGINS. Each datum BY PROGRAM (the guide's laid-datum.mjs) off the statement by which the dump's own 'gosem.cut.vars' lays the variable. In a bare row this is a premise. The card (YtjbgamifkgeodaaDoorCards.lean) ties it to the program's text. -/
def laid_palisade_word_widths {H : Type} : DataW H := .agg [.lit (.int .i64 1), .lit (.int .i64 0), .lit (.int .i64 4), .lit (.int .i64 8)]

/-- 'palisadelaw19.EmulateDecodes': WHATEVER THE INPUT: true; the input reads as it did. -/
def emulateDecodesSpec : ChangeSpec := { name := "emulateDecodes", fn := fun _ => fun
  | [d1, d2, d3] => { results := [.lit (.bool true)], args := [d1, d2, d3] }
  | _ => none }
def emulateDecodesRow : OpenClaim := { program := "ytjbgamifkgeodaadoor", sum := "06fcc8d417f02d47513ef3ec2621aa553fd45f319778da8192fec6baf7a60b1b", func := "palisade/palisadelaw19.EmulateDecodes", spec := "emulateDecodes", named := ["palisade/word.widths"], apart := false, laid := [("palisade/word.widths", laid_palisade_word_widths)] }
def EmulateDecodesSaid : Prop := emulateDecodesRow.holds Tryd.pinned (OpenSpec.ofChange emulateDecodesSpec)

/-- ITS FALSE NEIGHBOUR: 'it returns false'. Refute it at one input. -/
def emulateDecodesWrong : ChangeSpec := { name := "emulateDecodes", fn := fun _ => fun
  | [d1, d2, d3] => { results := [.lit (.bool false)], args := [d1, d2, d3] }
  | _ => none }
def EmulateDecodesWrongFalsely : Prop := emulateDecodesRow.holds Tryd.pinned (OpenSpec.ofChange emulateDecodesWrong)

/-- 'palisadelaw19.EmulateStores': WHATEVER THE INPUT: true; the input reads as it did. -/
def emulateStoresSpec : ChangeSpec := { name := "emulateStores", fn := fun _ => fun
  | [d1, d2, d3] => { results := [.lit (.bool true)], args := [d1, d2, d3] }
  | _ => none }
def emulateStoresRow : OpenClaim := { program := "ytjbgamifkgeodaadoor", sum := "06fcc8d417f02d47513ef3ec2621aa553fd45f319778da8192fec6baf7a60b1b", func := "palisade/palisadelaw19.EmulateStores", spec := "emulateStores", named := ["palisade/word.widths"], apart := false, laid := [("palisade/word.widths", laid_palisade_word_widths)] }
def EmulateStoresSaid : Prop := emulateStoresRow.holds Tryd.pinned (OpenSpec.ofChange emulateStoresSpec)

/-- ITS FALSE NEIGHBOUR: 'it returns false'. Refute it at one input. -/
def emulateStoresWrong : ChangeSpec := { name := "emulateStores", fn := fun _ => fun
  | [d1, d2, d3] => { results := [.lit (.bool false)], args := [d1, d2, d3] }
  | _ => none }
def EmulateStoresWrongFalsely : Prop := emulateStoresRow.holds Tryd.pinned (OpenSpec.ofChange emulateStoresWrong)

/- THE SECOND FORM. 'bulk': how many values and letters a reading holds, each counted each time it is reached (what is shared counts as often as it is met; a slice's spare places count too). A statement '..UptoSaid' is the law's where the arguments, and the package variables that the reading takes, are together of bulk at most 1048576: NARROWER than '..Said'. Prove '..Said' where nothing that the law and all that it calls make is longer than what came in: it says more and counts as full. Else prove '..UptoSaid'. A law counts once. -/
mutual
def uptoBulk {H : Type} : DataW H → Nat
  | .lit (.string bytes) => bytes.length + 1
  | .lit _ => 1
  | .nil => 1
  | .ptr d => uptoBulk d + 1
  | .slice elems spare => uptoBulkAll elems + uptoBulkAll spare + 1
  | .agg parts => uptoBulkAll parts + 1
  | .iface _ d => uptoBulk d + 1
  | .map entries => uptoBulkEntries entries + 1
  | .held _ => 1
def uptoBulkAll {H : Type} : List (DataW H) → Nat
  | [] => 0
  | d :: r => uptoBulk d + uptoBulkAll r
def uptoBulkEntries {H : Type} : List (Lit × DataW H) → Nat
  | [] => 0
  | x :: r => uptoBulkEntry x + uptoBulkEntries r
def uptoBulkEntry {H : Type} : Lit × DataW H → Nat
  | (.string bytes, d) => bytes.length + uptoBulk d + 1
  | (_, d) => uptoBulk d + 1
 end
def uptoSmall : (H : Type) → List (DataW H) → Bool := fun _ ds => decide (uptoBulkAll ds ≤ 1048576)
def OpenSpec.upto (s : _root_.Go.ChangeSpec) : _root_.Go.OpenSpec := { _root_.Go.OpenSpec.ofChange s with cond := some uptoSmall }

/-- 'palisadelaw19.EmulateDecodes', WHERE WHAT IT READS IS OF BULK AT MOST 1048576: true; the input reads as it did. -/
def emulateDecodesUptoRow : OpenClaim := { program := "ytjbgamifkgeodaadoor", sum := "06fcc8d417f02d47513ef3ec2621aa553fd45f319778da8192fec6baf7a60b1b", func := "palisade/palisadelaw19.EmulateDecodes", spec := "emulateDecodes", named := ["palisade/word.widths"], apart := false, laid := [("palisade/word.widths", laid_palisade_word_widths)], narrowed := true }
def EmulateDecodesUptoSaid : Prop := emulateDecodesUptoRow.holds Tryd.pinned (OpenSpec.upto emulateDecodesSpec)

/-- 'palisadelaw19.EmulateStores', WHERE WHAT IT READS IS OF BULK AT MOST 1048576: true; the input reads as it did. -/
def emulateStoresUptoRow : OpenClaim := { program := "ytjbgamifkgeodaadoor", sum := "06fcc8d417f02d47513ef3ec2621aa553fd45f319778da8192fec6baf7a60b1b", func := "palisade/palisadelaw19.EmulateStores", spec := "emulateStores", named := ["palisade/word.widths"], apart := false, laid := [("palisade/word.widths", laid_palisade_word_widths)], narrowed := true }
def EmulateStoresUptoSaid : Prop := emulateStoresUptoRow.holds Tryd.pinned (OpenSpec.upto emulateStoresSpec)

end Rows
end Go.Proofs.YtjbgamifkgeodaaDoor
