/-
  NARROWER THAN 'FOR EVERY INPUT', by the rows' own cells (each row's printed sentence says how): WordBytes: laid · EntryPacks: laid · EntryUnpacks: laid · EntryBack: laid · WordBack: laid.
  DERIVED. THE GIVEN ROWS OF THIS SEAT. 5 by the template 'for every input the law returns true; each argument reads behind the call as it read before'; 0 by the template 'total and deterministic' (their statements: YtecjomldekhbjaaDoorTotals.lean).
  GIVEN WITH THE SEED: the statements are not yours to turn. If you find one false, say at which input.
  Laid BY PROGRAM, IN A SANDBOX (cutbox-rows.mjs): the forced cells as the released guide's own fill.sh prints them over the translation 157dec930e2bf0c0… (all of the seat's roots in one cut). By AI agents, Wed Nov 11 2026. No macro, syntax, notation, axiom, sorry.
-/
import Derived.Test.YtecjomldekhbjaaDoorChecked
import GoSem.Claim
import GoSem.ClaimJoined
import GoSem.ClaimMapViews
import Derived.JoinedTies
import Derived.KernelRfl
namespace Go.Proofs.YtecjomldekhbjaaDoor
/- THE CELL 'sum', in the pinned program and in every row, IS THE sha256 OF THE DUMP (.gsa) THAT YtecjomldekhbjaaDoorProg.lean LOADS. Nothing in Lean hashes anything: it is a label: what it is worth is what the hold of that sum in a sandbox is worth. -/
noncomputable def Tryd.pinned : Pinned := { name := "ytecjomldekhbjaadoor", sum := "157dec930e2bf0c0e561346c4950507e01c13f6298b151eb4a1f7cef927dd432", checked := Tryd.checked }
namespace Rows
def none {H : Type} : Left H := { results := [], args := [] }

/- WHAT THE LISTED PACKAGE-LEVEL VARIABLES READ AS WHEN THE CALL BEGINS. Each datum BY PROGRAM (the guide's laid-datum.mjs) off the statement by which the dump's own 'gosem.cut.vars' lays the variable. In a bare row this is a premise. The card (YtecjomldekhbjaaDoorCards.lean) ties it to the program's text. -/
def laid_palisade_word_widths {H : Type} : DataW H := .agg [.lit (.int .i64 1), .lit (.int .i64 0), .lit (.int .i64 4), .lit (.int .i64 8)]
def laid_palisade_entry_places {H : Type} : DataW H := .agg [.lit (.int .i64 0), .lit (.int .i64 1), .lit (.int .i64 2), .lit (.int .i64 3), .lit (.int .i64 4), .lit (.int .i64 5), .lit (.int .i64 6)]

/-- 'palisadelaw01.WordBytes': WHATEVER THE INPUT: true; the input reads as it did. -/
def wordBytesSpec : ChangeSpec := { name := "wordBytes", fn := fun _ => fun
  | [d1, d2, d3] => { results := [.lit (.bool true)], args := [d1, d2, d3] }
  | _ => none }
def wordBytesRow : OpenClaim := { program := "ytecjomldekhbjaadoor", sum := "157dec930e2bf0c0e561346c4950507e01c13f6298b151eb4a1f7cef927dd432", func := "palisade/palisadelaw01.WordBytes", spec := "wordBytes", named := ["palisade/word.widths"], apart := false, laid := [("palisade/word.widths", laid_palisade_word_widths)] }
def WordBytesSaid : Prop := wordBytesRow.holds Tryd.pinned (OpenSpec.ofChange wordBytesSpec)

/-- ITS FALSE NEIGHBOUR: 'it returns false'. Refute it at one input. -/
def wordBytesWrong : ChangeSpec := { name := "wordBytes", fn := fun _ => fun
  | [d1, d2, d3] => { results := [.lit (.bool false)], args := [d1, d2, d3] }
  | _ => none }
def WordBytesWrongFalsely : Prop := wordBytesRow.holds Tryd.pinned (OpenSpec.ofChange wordBytesWrong)

/-- 'palisadelaw05.EntryPacks': WHATEVER THE INPUT: true; the input reads as it did. -/
def entryPacksSpec : ChangeSpec := { name := "entryPacks", fn := fun _ => fun
  | [d1, d2, d3] => { results := [.lit (.bool true)], args := [d1, d2, d3] }
  | _ => none }
def entryPacksRow : OpenClaim := { program := "ytecjomldekhbjaadoor", sum := "157dec930e2bf0c0e561346c4950507e01c13f6298b151eb4a1f7cef927dd432", func := "palisade/palisadelaw05.EntryPacks", spec := "entryPacks", named := ["palisade/entry.places"], apart := false, laid := [("palisade/entry.places", laid_palisade_entry_places)] }
def EntryPacksSaid : Prop := entryPacksRow.holds Tryd.pinned (OpenSpec.ofChange entryPacksSpec)

/-- ITS FALSE NEIGHBOUR: 'it returns false'. Refute it at one input. -/
def entryPacksWrong : ChangeSpec := { name := "entryPacks", fn := fun _ => fun
  | [d1, d2, d3] => { results := [.lit (.bool false)], args := [d1, d2, d3] }
  | _ => none }
def EntryPacksWrongFalsely : Prop := entryPacksRow.holds Tryd.pinned (OpenSpec.ofChange entryPacksWrong)

/-- 'palisadelaw05.EntryUnpacks': WHATEVER THE INPUT: true; the input reads as it did. -/
def entryUnpacksSpec : ChangeSpec := { name := "entryUnpacks", fn := fun _ => fun
  | [d1, d2, d3] => { results := [.lit (.bool true)], args := [d1, d2, d3] }
  | _ => none }
def entryUnpacksRow : OpenClaim := { program := "ytecjomldekhbjaadoor", sum := "157dec930e2bf0c0e561346c4950507e01c13f6298b151eb4a1f7cef927dd432", func := "palisade/palisadelaw05.EntryUnpacks", spec := "entryUnpacks", named := ["palisade/entry.places"], apart := false, laid := [("palisade/entry.places", laid_palisade_entry_places)] }
def EntryUnpacksSaid : Prop := entryUnpacksRow.holds Tryd.pinned (OpenSpec.ofChange entryUnpacksSpec)

/-- ITS FALSE NEIGHBOUR: 'it returns false'. Refute it at one input. -/
def entryUnpacksWrong : ChangeSpec := { name := "entryUnpacks", fn := fun _ => fun
  | [d1, d2, d3] => { results := [.lit (.bool false)], args := [d1, d2, d3] }
  | _ => none }
def EntryUnpacksWrongFalsely : Prop := entryUnpacksRow.holds Tryd.pinned (OpenSpec.ofChange entryUnpacksWrong)

/-- 'palisadelaw05.EntryBack': WHATEVER THE INPUT: true; the input reads as it did. -/
def entryBackSpec : ChangeSpec := { name := "entryBack", fn := fun _ => fun
  | [d1, d2] => { results := [.lit (.bool true)], args := [d1, d2] }
  | _ => none }
def entryBackRow : OpenClaim := { program := "ytecjomldekhbjaadoor", sum := "157dec930e2bf0c0e561346c4950507e01c13f6298b151eb4a1f7cef927dd432", func := "palisade/palisadelaw05.EntryBack", spec := "entryBack", named := ["palisade/entry.places"], apart := false, laid := [("palisade/entry.places", laid_palisade_entry_places)] }
def EntryBackSaid : Prop := entryBackRow.holds Tryd.pinned (OpenSpec.ofChange entryBackSpec)

/-- ITS FALSE NEIGHBOUR: 'it returns false'. Refute it at one input. -/
def entryBackWrong : ChangeSpec := { name := "entryBack", fn := fun _ => fun
  | [d1, d2] => { results := [.lit (.bool false)], args := [d1, d2] }
  | _ => none }
def EntryBackWrongFalsely : Prop := entryBackRow.holds Tryd.pinned (OpenSpec.ofChange entryBackWrong)

/-- 'palisadelaw01.WordBack': WHATEVER THE INPUT: true; the input reads as it did. -/
def wordBackSpec : ChangeSpec := { name := "wordBack", fn := fun _ => fun
  | [d1, d2, d3] => { results := [.lit (.bool true)], args := [d1, d2, d3] }
  | _ => none }
def wordBackRow : OpenClaim := { program := "ytecjomldekhbjaadoor", sum := "157dec930e2bf0c0e561346c4950507e01c13f6298b151eb4a1f7cef927dd432", func := "palisade/palisadelaw01.WordBack", spec := "wordBack", named := ["palisade/word.widths"], apart := false, laid := [("palisade/word.widths", laid_palisade_word_widths)] }
def WordBackSaid : Prop := wordBackRow.holds Tryd.pinned (OpenSpec.ofChange wordBackSpec)

/-- ITS FALSE NEIGHBOUR: 'it returns false'. Refute it at one input. -/
def wordBackWrong : ChangeSpec := { name := "wordBack", fn := fun _ => fun
  | [d1, d2, d3] => { results := [.lit (.bool false)], args := [d1, d2, d3] }
  | _ => none }
def WordBackWrongFalsely : Prop := wordBackRow.holds Tryd.pinned (OpenSpec.ofChange wordBackWrong)

/- THE SECOND FORM. 'bulk': how many values and letters a reading holds, each counted each time it is reached (what is shared counts as often as it is met; a slice's spare places count too). A statement '..UptoSaid' is the law's where the arguments, and the package variables that the reading takes, are together of bulk at most 1048576: NARROWER than '..Said'. Prove '..Said' where nothing that the law and all that it calls make is longer than what came in: it says more and counts as full. Else prove '..UptoSaid'. A law counts once. -/
mutual
def uptoBulk {H : Type} : DataW H → Nat
  | .lit (.string bytes) => bytes.length + 1
  | .lit _ => 1
  | .nil => 1
  | .ptr d => uptoBulk d + 1
  | .slice elems spare => uptoBulkAll elems + uptoBulkAll spare + 1
  | .agg parts => uptoBulkAll parts + 1
  | .iface _ d => uptoBulk d + 1
  | .map entries => uptoBulkEntries entries + 1
  | .held _ => 1
def uptoBulkAll {H : Type} : List (DataW H) → Nat
  | [] => 0
  | d :: r => uptoBulk d + uptoBulkAll r
def uptoBulkEntries {H : Type} : List (Lit × DataW H) → Nat
  | [] => 0
  | x :: r => uptoBulkEntry x + uptoBulkEntries r
def uptoBulkEntry {H : Type} : Lit × DataW H → Nat
  | (.string bytes, d) => bytes.length + uptoBulk d + 1
  | (_, d) => uptoBulk d + 1
 end
def uptoSmall : (H : Type) → List (DataW H) → Bool := fun _ ds => decide (uptoBulkAll ds ≤ 1048576)
def OpenSpec.upto (s : _root_.Go.ChangeSpec) : _root_.Go.OpenSpec := { _root_.Go.OpenSpec.ofChange s with cond := some uptoSmall }

/-- 'palisadelaw01.WordBytes', WHERE WHAT IT READS IS OF BULK AT MOST 1048576: true; the input reads as it did. -/
def wordBytesUptoRow : OpenClaim := { program := "ytecjomldekhbjaadoor", sum := "157dec930e2bf0c0e561346c4950507e01c13f6298b151eb4a1f7cef927dd432", func := "palisade/palisadelaw01.WordBytes", spec := "wordBytes", named := ["palisade/word.widths"], apart := false, laid := [("palisade/word.widths", laid_palisade_word_widths)], narrowed := true }
def WordBytesUptoSaid : Prop := wordBytesUptoRow.holds Tryd.pinned (OpenSpec.upto wordBytesSpec)

/-- 'palisadelaw05.EntryPacks', WHERE WHAT IT READS IS OF BULK AT MOST 1048576: true; the input reads as it did. -/
def entryPacksUptoRow : OpenClaim := { program := "ytecjomldekhbjaadoor", sum := "157dec930e2bf0c0e561346c4950507e01c13f6298b151eb4a1f7cef927dd432", func := "palisade/palisadelaw05.EntryPacks", spec := "entryPacks", named := ["palisade/entry.places"], apart := false, laid := [("palisade/entry.places", laid_palisade_entry_places)], narrowed := true }
def EntryPacksUptoSaid : Prop := entryPacksUptoRow.holds Tryd.pinned (OpenSpec.upto entryPacksSpec)

/-- 'palisadelaw05.EntryUnpacks', WHERE WHAT IT READS IS OF BULK AT MOST 1048576: true; the input reads as it did. -/
def entryUnpacksUptoRow : OpenClaim := { program := "ytecjomldekhbjaadoor", sum := "157dec930e2bf0c0e561346c4950507e01c13f6298b151eb4a1f7cef927dd432", func := "palisade/palisadelaw05.EntryUnpacks", spec := "entryUnpacks", named := ["palisade/entry.places"], apart := false, laid := [("palisade/entry.places", laid_palisade_entry_places)], narrowed := true }
def EntryUnpacksUptoSaid : Prop := entryUnpacksUptoRow.holds Tryd.pinned (OpenSpec.upto entryUnpacksSpec)

/-- 'palisadelaw05.EntryBack', WHERE WHAT IT READS IS OF BULK AT MOST 1048576: true; the input reads as it did. -/
def entryBackUptoRow : OpenClaim := { program := "ytecjomldekhbjaadoor", sum := "157dec930e2bf0c0e561346c4950507e01c13f6298b151eb4a1f7cef927dd432", func := "palisade/palisadelaw05.EntryBack", spec := "entryBack", named := ["palisade/entry.places"], apart := false, laid := [("palisade/entry.places", laid_palisade_entry_places)], narrowed := true }
def EntryBackUptoSaid : Prop := entryBackUptoRow.holds Tryd.pinned (OpenSpec.upto entryBackSpec)

/-- 'palisadelaw01.WordBack', WHERE WHAT IT READS IS OF BULK AT MOST 1048576: true; the input reads as it did. -/
def wordBackUptoRow : OpenClaim := { program := "ytecjomldekhbjaadoor", sum := "157dec930e2bf0c0e561346c4950507e01c13f6298b151eb4a1f7cef927dd432", func := "palisade/palisadelaw01.WordBack", spec := "wordBack", named := ["palisade/word.widths"], apart := false, laid := [("palisade/word.widths", laid_palisade_word_widths)], narrowed := true }
def WordBackUptoSaid : Prop := wordBackUptoRow.holds Tryd.pinned (OpenSpec.upto wordBackSpec)

end Rows
end Go.Proofs.YtecjomldekhbjaaDoor
