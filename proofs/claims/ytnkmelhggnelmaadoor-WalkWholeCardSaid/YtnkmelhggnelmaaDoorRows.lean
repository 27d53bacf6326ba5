/-
  NARROWER THAN 'FOR EVERY INPUT', by the rows' own cells (each row's printed sentence says how): WalkWhole: laid · WalkLies: laid.
  DERIVED. THE GIVEN ROWS OF THIS SEAT. 2 by the template 'for every input the law returns true; each argument reads behind the call as it read before'; 0 by the template 'total and deterministic' (their statements: YtnkmelhggnelmaaDoorTotals.lean).
  GIVEN WITH THE SEED: the statements are not yours to turn. If you find one false, say at which input.
  Laid BY PROGRAM, IN A SANDBOX (cutbox-rows.mjs): the forced cells as the released guide's own fill.sh prints them over the translation aed2ed86363a7c61… (all of the seat's roots in one cut). By AI agents, Wed Nov 11 2026. No macro, syntax, notation, axiom, sorry.
-/
import Derived.Test.YtnkmelhggnelmaaDoorChecked
import GoSem.Claim
import GoSem.ClaimJoined
import GoSem.ClaimMapViews
import Derived.JoinedTies
import Derived.KernelRfl
namespace Go.Proofs.YtnkmelhggnelmaaDoor
/- THE CELL 'sum', in the pinned program and in every row, IS THE sha256 OF THE DUMP (.gsa) THAT YtnkmelhggnelmaaDoorProg.lean LOADS. Nothing in Lean hashes anything: it is a label: what it is worth is what the hold of that sum in a sandbox is worth. -/
noncomputable def Tryd.pinned : Pinned := { name := "ytnkmelhggnelmaadoor", sum := "aed2ed86363a7c614449f0fa84db2dc5e055cb3905463f544abd94ff9364034a", checked := Tryd.checked }
namespace Rows
def none {H : Type} : Left H := { results := [], args := [] }

/- WHAT THE LISTED PACKAGE-LEVEL VARIABLES READ AS WHEN THE CALL BEGINS. Each datum BY PROGRAM (the guide's laid-datum.mjs) off the statement by which the dump's own 'gosem.cut.vars' lays the variable. In a bare row this is a premise. The card (YtnkmelhggnelmaaDoorCards.lean) ties it to the program's text. -/
def laid_palisade_word_widths {H : Type} : DataW H := .agg [.lit (.int .i64 1), .lit (.int .i64 0), .lit (.int .i64 4), .lit (.int .i64 8)]
def laid_palisade_entry_places {H : Type} : DataW H := .agg [.lit (.int .i64 0), .lit (.int .i64 1), .lit (.int .i64 2), .lit (.int .i64 3), .lit (.int .i64 4), .lit (.int .i64 5), .lit (.int .i64 6)]

/-- 'palisadelaw06.WalkWhole': WHATEVER THE INPUT: true; the input reads as it did. -/
def walkWholeSpec : ChangeSpec := { name := "walkWhole", fn := fun _ => fun
  | [d1, d2, d3] => { results := [.lit (.bool true)], args := [d1, d2, d3] }
  | _ => none }
def walkWholeRow : OpenClaim := { program := "ytnkmelhggnelmaadoor", sum := "aed2ed86363a7c614449f0fa84db2dc5e055cb3905463f544abd94ff9364034a", func := "palisade/palisadelaw06.WalkWhole", spec := "walkWhole", unfollowed := true, recurses := true, named := ["palisade/word.widths", "palisade/entry.places"], apart := false, laid := [("palisade/word.widths", laid_palisade_word_widths), ("palisade/entry.places", laid_palisade_entry_places)] }
def WalkWholeSaid : Prop := walkWholeRow.holds Tryd.pinned (OpenSpec.ofChange walkWholeSpec)

/-- ITS FALSE NEIGHBOUR: 'it returns false'. Refute it at one input. -/
def walkWholeWrong : ChangeSpec := { name := "walkWhole", fn := fun _ => fun
  | [d1, d2, d3] => { results := [.lit (.bool false)], args := [d1, d2, d3] }
  | _ => none }
def WalkWholeWrongFalsely : Prop := walkWholeRow.holds Tryd.pinned (OpenSpec.ofChange walkWholeWrong)

/-- 'palisadelaw06.WalkLies': WHATEVER THE INPUT: true; the input reads as it did. -/
def walkLiesSpec : ChangeSpec := { name := "walkLies", fn := fun _ => fun
  | [d1, d2] => { results := [.lit (.bool true)], args := [d1, d2] }
  | _ => none }
def walkLiesRow : OpenClaim := { program := "ytnkmelhggnelmaadoor", sum := "aed2ed86363a7c614449f0fa84db2dc5e055cb3905463f544abd94ff9364034a", func := "palisade/palisadelaw06.WalkLies", spec := "walkLies", unfollowed := true, recurses := true, named := ["palisade/word.widths", "palisade/entry.places"], apart := false, laid := [("palisade/word.widths", laid_palisade_word_widths), ("palisade/entry.places", laid_palisade_entry_places)] }
def WalkLiesSaid : Prop := walkLiesRow.holds Tryd.pinned (OpenSpec.ofChange walkLiesSpec)

/-- ITS FALSE NEIGHBOUR: 'it returns false'. Refute it at one input. -/
def walkLiesWrong : ChangeSpec := { name := "walkLies", fn := fun _ => fun
  | [d1, d2] => { results := [.lit (.bool false)], args := [d1, d2] }
  | _ => none }
def WalkLiesWrongFalsely : Prop := walkLiesRow.holds Tryd.pinned (OpenSpec.ofChange walkLiesWrong)

/- THE SECOND FORM. 'bulk': how many values and letters a reading holds, each counted each time it is reached (what is shared counts as often as it is met; a slice's spare places count too). A statement '..UptoSaid' is the law's where the arguments, and the package variables that the reading takes, are together of bulk at most 1048576: NARROWER than '..Said'. Prove '..Said' where nothing that the law and all that it calls make is longer than what came in: it says more and counts as full. Else prove '..UptoSaid'. A law counts once. -/
mutual
def uptoBulk {H : Type} : DataW H → Nat
  | .lit (.string bytes) => bytes.length + 1
  | .lit _ => 1
  | .nil => 1
  | .ptr d => uptoBulk d + 1
  | .slice elems spare => uptoBulkAll elems + uptoBulkAll spare + 1
  | .agg parts => uptoBulkAll parts + 1
  | .iface _ d => uptoBulk d + 1
  | .map entries => uptoBulkEntries entries + 1
  | .held _ => 1
def uptoBulkAll {H : Type} : List (DataW H) → Nat
  | [] => 0
  | d :: r => uptoBulk d + uptoBulkAll r
def uptoBulkEntries {H : Type} : List (Lit × DataW H) → Nat
  | [] => 0
  | x :: r => uptoBulkEntry x + uptoBulkEntries r
def uptoBulkEntry {H : Type} : Lit × DataW H → Nat
  | (.string bytes, d) => bytes.length + uptoBulk d + 1
  | (_, d) => uptoBulk d + 1
 end
def uptoSmall : (H : Type) → List (DataW H) → Bool := fun _ ds => decide (uptoBulkAll ds ≤ 1048576)
def OpenSpec.upto (s : _root_.Go.ChangeSpec) : _root_.Go.OpenSpec := { _root_.Go.OpenSpec.ofChange s with cond := some uptoSmall }

/-- 'palisadelaw06.WalkWhole', WHERE WHAT IT READS IS OF BULK AT MOST 1048576: true; the input reads as it did. -/
def walkWholeUptoRow : OpenClaim := { program := "ytnkmelhggnelmaadoor", sum := "aed2ed86363a7c614449f0fa84db2dc5e055cb3905463f544abd94ff9364034a", func := "palisade/palisadelaw06.WalkWhole", spec := "walkWhole", unfollowed := true, recurses := true, named := ["palisade/word.widths", "palisade/entry.places"], apart := false, laid := [("palisade/word.widths", laid_palisade_word_widths), ("palisade/entry.places", laid_palisade_entry_places)], narrowed := true }
def WalkWholeUptoSaid : Prop := walkWholeUptoRow.holds Tryd.pinned (OpenSpec.upto walkWholeSpec)

/-- 'palisadelaw06.WalkLies', WHERE WHAT IT READS IS OF BULK AT MOST 1048576: true; the input reads as it did. -/
def walkLiesUptoRow : OpenClaim := { program := "ytnkmelhggnelmaadoor", sum := "aed2ed86363a7c614449f0fa84db2dc5e055cb3905463f544abd94ff9364034a", func := "palisade/palisadelaw06.WalkLies", spec := "walkLies", unfollowed := true, recurses := true, named := ["palisade/word.widths", "palisade/entry.places"], apart := false, laid := [("palisade/word.widths", laid_palisade_word_widths), ("palisade/entry.places", laid_palisade_entry_places)], narrowed := true }
def WalkLiesUptoSaid : Prop := walkLiesUptoRow.holds Tryd.pinned (OpenSpec.upto walkLiesSpec)

end Rows
end Go.Proofs.YtnkmelhggnelmaaDoor
