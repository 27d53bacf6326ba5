/-
  NARROWER THAN 'FOR EVERY INPUT', by the rows' own cells (each row's printed sentence says how): MemKeeps: laid · MemEnds: laid · MemApart: laid · MemPlays: laid · MemNobody: laid.
  DERIVED. THE GIVEN ROWS OF THIS SEAT. 5 by the template 'for every input the law returns true; each argument reads behind the call as it read before'; 0 by the template 'total and deterministic' (their statements: YtoehigcojgeioaaDoorTotals.lean).
  GIVEN WITH THE SEED: the statements are not yours to turn. If you find one false, say at which input.
  Laid BY PROGRAM, IN A SANDBOX (cutbox-rows.mjs): the forced cells as the released guide's own fill.sh prints them over the translation 052fd41b6e80d94a… (all of the seat's roots in one cut). By AI agents, Wed Nov 11 2026. No macro, syntax, notation, axiom, sorry.
-/
import Derived.Test.YtoehigcojgeioaaDoorChecked
import GoSem.Claim
import GoSem.ClaimJoined
import GoSem.ClaimMapViews
import Derived.JoinedTies
import Derived.KernelRfl
namespace Go.Proofs.YtoehigcojgeioaaDoor
/- THE CELL 'sum', in the pinned program and in every row, IS THE sha256 OF THE DUMP (.gsa) THAT YtoehigcojgeioaaDoorProg.lean LOADS. Nothing in Lean hashes anything: it is a label: what it is worth is what the hold of that sum in a sandbox is worth. -/
noncomputable def Tryd.pinned : Pinned := { name := "ytoehigcojgeioaadoor", sum := "052fd41b6e80d94a524e5963a67ee35e3ed74e4d4bd4e9dbeed52655fbcd1812", checked := Tryd.checked }
namespace Rows
def none {H : Type} : Left H := { results := [], args := [] }

/- WHAT THE LISTED PACKAGE-LEVEL VARIABLES READ AS WHEN THE CALL BEGINS. Each datum BY PROGRAM (the guide's laid-datum.mjs) off the statement by which the dump's own 'gosem.cut.vars' lays the variable. In a bare row this is a premise. The card (YtoehigcojgeioaaDoorCards.lean) ties it to the program's text. -/
def laid_palisade_word_widths {H : Type} : DataW H := .agg [.lit (.int .i64 1), .lit (.int .i64 0), .lit (.int .i64 4), .lit (.int .i64 8)]

/-- 'palisadelaw04.MemKeeps': WHATEVER THE INPUT: true; the input reads as it did. -/
def memKeepsSpec : ChangeSpec := { name := "memKeeps", fn := fun _ => fun
  | [d1, d2, d3] => { results := [.lit (.bool true)], args := [d1, d2, d3] }
  | _ => none }
def memKeepsRow : OpenClaim := { program := "ytoehigcojgeioaadoor", sum := "052fd41b6e80d94a524e5963a67ee35e3ed74e4d4bd4e9dbeed52655fbcd1812", func := "palisade/palisadelaw04.MemKeeps", spec := "memKeeps", unfollowed := true, recurses := true, named := ["palisade/word.widths"], apart := false, laid := [("palisade/word.widths", laid_palisade_word_widths)] }
def MemKeepsSaid : Prop := memKeepsRow.holds Tryd.pinned (OpenSpec.ofChange memKeepsSpec)

/-- ITS FALSE NEIGHBOUR: 'it returns false'. Refute it at one input. -/
def memKeepsWrong : ChangeSpec := { name := "memKeeps", fn := fun _ => fun
  | [d1, d2, d3] => { results := [.lit (.bool false)], args := [d1, d2, d3] }
  | _ => none }
def MemKeepsWrongFalsely : Prop := memKeepsRow.holds Tryd.pinned (OpenSpec.ofChange memKeepsWrong)

/-- 'palisadelaw04.MemEnds': WHATEVER THE INPUT: true; the input reads as it did. -/
def memEndsSpec : ChangeSpec := { name := "memEnds", fn := fun _ => fun
  | [d1, d2] => { results := [.lit (.bool true)], args := [d1, d2] }
  | _ => none }
def memEndsRow : OpenClaim := { program := "ytoehigcojgeioaadoor", sum := "052fd41b6e80d94a524e5963a67ee35e3ed74e4d4bd4e9dbeed52655fbcd1812", func := "palisade/palisadelaw04.MemEnds", spec := "memEnds", unfollowed := true, recurses := true, named := ["palisade/word.widths"], apart := false, laid := [("palisade/word.widths", laid_palisade_word_widths)] }
def MemEndsSaid : Prop := memEndsRow.holds Tryd.pinned (OpenSpec.ofChange memEndsSpec)

/-- ITS FALSE NEIGHBOUR: 'it returns false'. Refute it at one input. -/
def memEndsWrong : ChangeSpec := { name := "memEnds", fn := fun _ => fun
  | [d1, d2] => { results := [.lit (.bool false)], args := [d1, d2] }
  | _ => none }
def MemEndsWrongFalsely : Prop := memEndsRow.holds Tryd.pinned (OpenSpec.ofChange memEndsWrong)

/-- 'palisadelaw04.MemApart': WHATEVER THE INPUT: true; the input reads as it did. -/
def memApartSpec : ChangeSpec := { name := "memApart", fn := fun _ => fun
  | [d1, d2, d3] => { results := [.lit (.bool true)], args := [d1, d2, d3] }
  | _ => none }
def memApartRow : OpenClaim := { program := "ytoehigcojgeioaadoor", sum := "052fd41b6e80d94a524e5963a67ee35e3ed74e4d4bd4e9dbeed52655fbcd1812", func := "palisade/palisadelaw04.MemApart", spec := "memApart", unfollowed := true, recurses := true, named := ["palisade/word.widths"], apart := false, laid := [("palisade/word.widths", laid_palisade_word_widths)] }
def MemApartSaid : Prop := memApartRow.holds Tryd.pinned (OpenSpec.ofChange memApartSpec)

/-- ITS FALSE NEIGHBOUR: 'it returns false'. Refute it at one input. -/
def memApartWrong : ChangeSpec := { name := "memApart", fn := fun _ => fun
  | [d1, d2, d3] => { results := [.lit (.bool false)], args := [d1, d2, d3] }
  | _ => none }
def MemApartWrongFalsely : Prop := memApartRow.holds Tryd.pinned (OpenSpec.ofChange memApartWrong)

/-- 'palisadelaw04.MemPlays': WHATEVER THE INPUT: true; the input reads as it did. -/
def memPlaysSpec : ChangeSpec := { name := "memPlays", fn := fun _ => fun
  | [d1, d2] => { results := [.lit (.bool true)], args := [d1, d2] }
  | _ => none }
def memPlaysRow : OpenClaim := { program := "ytoehigcojgeioaadoor", sum := "052fd41b6e80d94a524e5963a67ee35e3ed74e4d4bd4e9dbeed52655fbcd1812", func := "palisade/palisadelaw04.MemPlays", spec := "memPlays", unfollowed := true, recurses := true, named := ["palisade/word.widths"], apart := false, laid := [("palisade/word.widths", laid_palisade_word_widths)] }
def MemPlaysSaid : Prop := memPlaysRow.holds Tryd.pinned (OpenSpec.ofChange memPlaysSpec)

/-- ITS FALSE NEIGHBOUR: 'it returns false'. Refute it at one input. -/
def memPlaysWrong : ChangeSpec := { name := "memPlays", fn := fun _ => fun
  | [d1, d2] => { results := [.lit (.bool false)], args := [d1, d2] }
  | _ => none }
def MemPlaysWrongFalsely : Prop := memPlaysRow.holds Tryd.pinned (OpenSpec.ofChange memPlaysWrong)

/-- 'palisadelaw04.MemNobody': WHATEVER THE INPUT: true; the input reads as it did. -/
def memNobodySpec : ChangeSpec := { name := "memNobody", fn := fun _ => fun
  | [d] => { results := [.lit (.bool true)], args := [d] }
  | _ => none }
def memNobodyRow : OpenClaim := { program := "ytoehigcojgeioaadoor", sum := "052fd41b6e80d94a524e5963a67ee35e3ed74e4d4bd4e9dbeed52655fbcd1812", func := "palisade/palisadelaw04.MemNobody", spec := "memNobody", unfollowed := true, recurses := true, named := ["palisade/word.widths"], apart := false, laid := [("palisade/word.widths", laid_palisade_word_widths)] }
def MemNobodySaid : Prop := memNobodyRow.holds Tryd.pinned (OpenSpec.ofChange memNobodySpec)

/-- ITS FALSE NEIGHBOUR: 'it returns false'. Refute it at one input. -/
def memNobodyWrong : ChangeSpec := { name := "memNobody", fn := fun _ => fun
  | [d] => { results := [.lit (.bool false)], args := [d] }
  | _ => none }
def MemNobodyWrongFalsely : Prop := memNobodyRow.holds Tryd.pinned (OpenSpec.ofChange memNobodyWrong)

/- THE SECOND FORM. 'bulk': how many values and letters a reading holds, each counted each time it is reached (what is shared counts as often as it is met; a slice's spare places count too). A statement '..UptoSaid' is the law's where the arguments, and the package variables that the reading takes, are together of bulk at most 1048576: NARROWER than '..Said'. Prove '..Said' where nothing that the law and all that it calls make is longer than what came in: it says more and counts as full. Else prove '..UptoSaid'. A law counts once. -/
mutual
def uptoBulk {H : Type} : DataW H → Nat
  | .lit (.string bytes) => bytes.length + 1
  | .lit _ => 1
  | .nil => 1
  | .ptr d => uptoBulk d + 1
  | .slice elems spare => uptoBulkAll elems + uptoBulkAll spare + 1
  | .agg parts => uptoBulkAll parts + 1
  | .iface _ d => uptoBulk d + 1
  | .map entries => uptoBulkEntries entries + 1
  | .held _ => 1
def uptoBulkAll {H : Type} : List (DataW H) → Nat
  | [] => 0
  | d :: r => uptoBulk d + uptoBulkAll r
def uptoBulkEntries {H : Type} : List (Lit × DataW H) → Nat
  | [] => 0
  | x :: r => uptoBulkEntry x + uptoBulkEntries r
def uptoBulkEntry {H : Type} : Lit × DataW H → Nat
  | (.string bytes, d) => bytes.length + uptoBulk d + 1
  | (_, d) => uptoBulk d + 1
 end
def uptoSmall : (H : Type) → List (DataW H) → Bool := fun _ ds => decide (uptoBulkAll ds ≤ 1048576)
def OpenSpec.upto (s : _root_.Go.ChangeSpec) : _root_.Go.OpenSpec := { _root_.Go.OpenSpec.ofChange s with cond := some uptoSmall }

/-- 'palisadelaw04.MemKeeps', WHERE WHAT IT READS IS OF BULK AT MOST 1048576: true; the input reads as it did. -/
def memKeepsUptoRow : OpenClaim := { program := "ytoehigcojgeioaadoor", sum := "052fd41b6e80d94a524e5963a67ee35e3ed74e4d4bd4e9dbeed52655fbcd1812", func := "palisade/palisadelaw04.MemKeeps", spec := "memKeeps", unfollowed := true, recurses := true, named := ["palisade/word.widths"], apart := false, laid := [("palisade/word.widths", laid_palisade_word_widths)], narrowed := true }
def MemKeepsUptoSaid : Prop := memKeepsUptoRow.holds Tryd.pinned (OpenSpec.upto memKeepsSpec)

/-- 'palisadelaw04.MemEnds', WHERE WHAT IT READS IS OF BULK AT MOST 1048576: true; the input reads as it did. -/
def memEndsUptoRow : OpenClaim := { program := "ytoehigcojgeioaadoor", sum := "052fd41b6e80d94a524e5963a67ee35e3ed74e4d4bd4e9dbeed52655fbcd1812", func := "palisade/palisadelaw04.MemEnds", spec := "memEnds", unfollowed := true, recurses := true, named := ["palisade/word.widths"], apart := false, laid := [("palisade/word.widths", laid_palisade_word_widths)], narrowed := true }
def MemEndsUptoSaid : Prop := memEndsUptoRow.holds Tryd.pinned (OpenSpec.upto memEndsSpec)

/-- 'palisadelaw04.MemApart', WHERE WHAT IT READS IS OF BULK AT MOST 1048576: true; the input reads as it did. -/
def memApartUptoRow : OpenClaim := { program := "ytoehigcojgeioaadoor", sum := "052fd41b6e80d94a524e5963a67ee35e3ed74e4d4bd4e9dbeed52655fbcd1812", func := "palisade/palisadelaw04.MemApart", spec := "memApart", unfollowed := true, recurses := true, named := ["palisade/word.widths"], apart := false, laid := [("palisade/word.widths", laid_palisade_word_widths)], narrowed := true }
def MemApartUptoSaid : Prop := memApartUptoRow.holds Tryd.pinned (OpenSpec.upto memApartSpec)

/-- 'palisadelaw04.MemPlays', WHERE WHAT IT READS IS OF BULK AT MOST 1048576: true; the input reads as it did. -/
def memPlaysUptoRow : OpenClaim := { program := "ytoehigcojgeioaadoor", sum := "052fd41b6e80d94a524e5963a67ee35e3ed74e4d4bd4e9dbeed52655fbcd1812", func := "palisade/palisadelaw04.MemPlays", spec := "memPlays", unfollowed := true, recurses := true, named := ["palisade/word.widths"], apart := false, laid := [("palisade/word.widths", laid_palisade_word_widths)], narrowed := true }
def MemPlaysUptoSaid : Prop := memPlaysUptoRow.holds Tryd.pinned (OpenSpec.upto memPlaysSpec)

/-- 'palisadelaw04.MemNobody', WHERE WHAT IT READS IS OF BULK AT MOST 1048576: true; the input reads as it did. -/
def memNobodyUptoRow : OpenClaim := { program := "ytoehigcojgeioaadoor", sum := "052fd41b6e80d94a524e5963a67ee35e3ed74e4d4bd4e9dbeed52655fbcd1812", func := "palisade/palisadelaw04.MemNobody", spec := "memNobody", unfollowed := true, recurses := true, named := ["palisade/word.widths"], apart := false, laid := [("palisade/word.widths", laid_palisade_word_widths)], narrowed := true }
def MemNobodyUptoSaid : Prop := memNobodyUptoRow.holds Tryd.pinned (OpenSpec.upto memNobodySpec)

end Rows
end Go.Proofs.YtoehigcojgeioaaDoor
