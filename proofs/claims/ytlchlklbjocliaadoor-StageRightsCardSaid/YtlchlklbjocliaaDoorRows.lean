/-
  NARROWER THAN 'FOR EVERY INPUT', by the rows' own cells (each row's printed sentence says how): StageNobody: laid · StageBack: laid · StagePlays: laid · StageRights: laid · StageWalks: laid · BalloonApart: laid · BalloonBack: laid · BalloonNobody: laid · BalloonPlays: laid.
  DERIVED. THE GIVEN ROWS OF THIS SEAT. 9 by the template 'for every input the law returns true; each argument reads behind the call as it read before'; 0 by the template 'total and deterministic' (their statements: YtlchlklbjocliaaDoorTotals.lean).
  GIVEN WITH THE SEED: the statements are not yours to turn. If you find one false, say at which input.
  Laid BY PROGRAM, IN A SANDBOX (cutbox-rows.mjs): the forced cells as the released guide's own fill.sh prints them over the translation db6ac06674a37440… (all of the seat's roots in one cut). By AI agents, Wed Nov 11 2026. No macro, syntax, notation, axiom, sorry.
-/
import Derived.Test.YtlchlklbjocliaaDoorChecked
import GoSem.Claim
import GoSem.ClaimJoined
import GoSem.ClaimMapViews
import Derived.JoinedTies
import Derived.KernelRfl
namespace Go.Proofs.YtlchlklbjocliaaDoor
/- THE CELL 'sum', in the pinned program and in every row, IS THE sha256 OF THE DUMP (.gsa) THAT YtlchlklbjocliaaDoorProg.lean LOADS. Nothing in Lean hashes anything: it is a label: what it is worth is what the hold of that sum in a sandbox is worth. -/
noncomputable def Tryd.pinned : Pinned := { name := "ytlchlklbjocliaadoor", sum := "db6ac06674a3744091beb8a9d916f4bc9337c7297361799853c0e3f2a10cfc97", checked := Tryd.checked }
namespace Rows
def none {H : Type} : Left H := { results := [], args := [] }

/- WHAT THE LISTED PACKAGE-LEVEL VARIABLES READ AS WHEN THE CALL BEGINS. Each datum BY PROGRAM (the guide's laid-datum.mjs) off the statement by which the dump's own 'gosem.cut.vars' lays the variable. In a bare row this is a premise. The card (YtlchlklbjocliaaDoorCards.lean) ties it to the program's text. -/
def laid_palisade_word_widths {H : Type} : DataW H := .agg [.lit (.int .i64 1), .lit (.int .i64 0), .lit (.int .i64 4), .lit (.int .i64 8)]
def laid_palisade_entry_places {H : Type} : DataW H := .agg [.lit (.int .i64 0), .lit (.int .i64 1), .lit (.int .i64 2), .lit (.int .i64 3), .lit (.int .i64 4), .lit (.int .i64 5), .lit (.int .i64 6)]

/-- 'palisadelaw17.StageNobody': WHATEVER THE INPUT: true; the input reads as it did. -/
def stageNobodySpec : ChangeSpec := { name := "stageNobody", fn := fun _ => fun
  | [d] => { results := [.lit (.bool true)], args := [d] }
  | _ => none }
def stageNobodyRow : OpenClaim := { program := "ytlchlklbjocliaadoor", sum := "db6ac06674a3744091beb8a9d916f4bc9337c7297361799853c0e3f2a10cfc97", func := "palisade/palisadelaw17.StageNobody", spec := "stageNobody", unfollowed := true, recurses := true, named := ["palisade/word.widths", "palisade/entry.places"], apart := false, laid := [("palisade/word.widths", laid_palisade_word_widths), ("palisade/entry.places", laid_palisade_entry_places)] }
def StageNobodySaid : Prop := stageNobodyRow.holds Tryd.pinned (OpenSpec.ofChange stageNobodySpec)

/-- ITS FALSE NEIGHBOUR: 'it returns false'. Refute it at one input. -/
def stageNobodyWrong : ChangeSpec := { name := "stageNobody", fn := fun _ => fun
  | [d] => { results := [.lit (.bool false)], args := [d] }
  | _ => none }
def StageNobodyWrongFalsely : Prop := stageNobodyRow.holds Tryd.pinned (OpenSpec.ofChange stageNobodyWrong)

/-- 'palisadelaw17.StageBack': WHATEVER THE INPUT: true; the input reads as it did. -/
def stageBackSpec : ChangeSpec := { name := "stageBack", fn := fun _ => fun
  | [d] => { results := [.lit (.bool true)], args := [d] }
  | _ => none }
def stageBackRow : OpenClaim := { program := "ytlchlklbjocliaadoor", sum := "db6ac06674a3744091beb8a9d916f4bc9337c7297361799853c0e3f2a10cfc97", func := "palisade/palisadelaw17.StageBack", spec := "stageBack", unfollowed := true, recurses := true, named := ["palisade/word.widths", "palisade/entry.places"], apart := false, laid := [("palisade/word.widths", laid_palisade_word_widths), ("palisade/entry.places", laid_palisade_entry_places)] }
def StageBackSaid : Prop := stageBackRow.holds Tryd.pinned (OpenSpec.ofChange stageBackSpec)

/-- ITS FALSE NEIGHBOUR: 'it returns false'. Refute it at one input. -/
def stageBackWrong : ChangeSpec := { name := "stageBack", fn := fun _ => fun
  | [d] => { results := [.lit (.bool false)], args := [d] }
  | _ => none }
def StageBackWrongFalsely : Prop := stageBackRow.holds Tryd.pinned (OpenSpec.ofChange stageBackWrong)

/-- 'palisadelaw17.StagePlays': WHATEVER THE INPUT: true; the input reads as it did. -/
def stagePlaysSpec : ChangeSpec := { name := "stagePlays", fn := fun _ => fun
  | [d1, d2, d3] => { results := [.lit (.bool true)], args := [d1, d2, d3] }
  | _ => none }
def stagePlaysRow : OpenClaim := { program := "ytlchlklbjocliaadoor", sum := "db6ac06674a3744091beb8a9d916f4bc9337c7297361799853c0e3f2a10cfc97", func := "palisade/palisadelaw17.StagePlays", spec := "stagePlays", unfollowed := true, recurses := true, named := ["palisade/word.widths", "palisade/entry.places"], apart := false, laid := [("palisade/word.widths", laid_palisade_word_widths), ("palisade/entry.places", laid_palisade_entry_places)] }
def StagePlaysSaid : Prop := stagePlaysRow.holds Tryd.pinned (OpenSpec.ofChange stagePlaysSpec)

/-- ITS FALSE NEIGHBOUR: 'it returns false'. Refute it at one input. -/
def stagePlaysWrong : ChangeSpec := { name := "stagePlays", fn := fun _ => fun
  | [d1, d2, d3] => { results := [.lit (.bool false)], args := [d1, d2, d3] }
  | _ => none }
def StagePlaysWrongFalsely : Prop := stagePlaysRow.holds Tryd.pinned (OpenSpec.ofChange stagePlaysWrong)

/-- 'palisadelaw17.StageRights': WHATEVER THE INPUT: true; the input reads as it did. -/
def stageRightsSpec : ChangeSpec := { name := "stageRights", fn := fun _ => fun
  | [d1, d2] => { results := [.lit (.bool true)], args := [d1, d2] }
  | _ => none }
def stageRightsRow : OpenClaim := { program := "ytlchlklbjocliaadoor", sum := "db6ac06674a3744091beb8a9d916f4bc9337c7297361799853c0e3f2a10cfc97", func := "palisade/palisadelaw17.StageRights", spec := "stageRights", unfollowed := true, recurses := true, named := ["palisade/word.widths", "palisade/entry.places"], apart := false, laid := [("palisade/word.widths", laid_palisade_word_widths), ("palisade/entry.places", laid_palisade_entry_places)] }
def StageRightsSaid : Prop := stageRightsRow.holds Tryd.pinned (OpenSpec.ofChange stageRightsSpec)

/-- ITS FALSE NEIGHBOUR: 'it returns false'. Refute it at one input. -/
def stageRightsWrong : ChangeSpec := { name := "stageRights", fn := fun _ => fun
  | [d1, d2] => { results := [.lit (.bool false)], args := [d1, d2] }
  | _ => none }
def StageRightsWrongFalsely : Prop := stageRightsRow.holds Tryd.pinned (OpenSpec.ofChange stageRightsWrong)

/-- 'palisadelaw17.StageWalks': WHATEVER THE INPUT: true; the input reads as it did. -/
def stageWalksSpec : ChangeSpec := { name := "stageWalks", fn := fun _ => fun
  | [d] => { results := [.lit (.bool true)], args := [d] }
  | _ => none }
def stageWalksRow : OpenClaim := { program := "ytlchlklbjocliaadoor", sum := "db6ac06674a3744091beb8a9d916f4bc9337c7297361799853c0e3f2a10cfc97", func := "palisade/palisadelaw17.StageWalks", spec := "stageWalks", unfollowed := true, recurses := true, named := ["palisade/word.widths", "palisade/entry.places"], apart := false, laid := [("palisade/word.widths", laid_palisade_word_widths), ("palisade/entry.places", laid_palisade_entry_places)] }
def StageWalksSaid : Prop := stageWalksRow.holds Tryd.pinned (OpenSpec.ofChange stageWalksSpec)

/-- ITS FALSE NEIGHBOUR: 'it returns false'. Refute it at one input. -/
def stageWalksWrong : ChangeSpec := { name := "stageWalks", fn := fun _ => fun
  | [d] => { results := [.lit (.bool false)], args := [d] }
  | _ => none }
def StageWalksWrongFalsely : Prop := stageWalksRow.holds Tryd.pinned (OpenSpec.ofChange stageWalksWrong)

/-- 'palisadelaw25.BalloonApart': WHATEVER THE INPUT: true; the input reads as it did. -/
def balloonApartSpec : ChangeSpec := { name := "balloonApart", fn := fun _ => fun
  | [d] => { results := [.lit (.bool true)], args := [d] }
  | _ => none }
def balloonApartRow : OpenClaim := { program := "ytlchlklbjocliaadoor", sum := "db6ac06674a3744091beb8a9d916f4bc9337c7297361799853c0e3f2a10cfc97", func := "palisade/palisadelaw25.BalloonApart", spec := "balloonApart", unfollowed := true, recurses := true, named := ["palisade/word.widths", "palisade/entry.places"], apart := false, laid := [("palisade/word.widths", laid_palisade_word_widths), ("palisade/entry.places", laid_palisade_entry_places)] }
def BalloonApartSaid : Prop := balloonApartRow.holds Tryd.pinned (OpenSpec.ofChange balloonApartSpec)

/-- ITS FALSE NEIGHBOUR: 'it returns false'. Refute it at one input. -/
def balloonApartWrong : ChangeSpec := { name := "balloonApart", fn := fun _ => fun
  | [d] => { results := [.lit (.bool false)], args := [d] }
  | _ => none }
def BalloonApartWrongFalsely : Prop := balloonApartRow.holds Tryd.pinned (OpenSpec.ofChange balloonApartWrong)

/-- 'palisadelaw25.BalloonBack': WHATEVER THE INPUT: true; the input reads as it did. -/
def balloonBackSpec : ChangeSpec := { name := "balloonBack", fn := fun _ => fun
  | [d] => { results := [.lit (.bool true)], args := [d] }
  | _ => none }
def balloonBackRow : OpenClaim := { program := "ytlchlklbjocliaadoor", sum := "db6ac06674a3744091beb8a9d916f4bc9337c7297361799853c0e3f2a10cfc97", func := "palisade/palisadelaw25.BalloonBack", spec := "balloonBack", unfollowed := true, recurses := true, named := ["palisade/word.widths", "palisade/entry.places"], apart := false, laid := [("palisade/word.widths", laid_palisade_word_widths), ("palisade/entry.places", laid_palisade_entry_places)] }
def BalloonBackSaid : Prop := balloonBackRow.holds Tryd.pinned (OpenSpec.ofChange balloonBackSpec)

/-- ITS FALSE NEIGHBOUR: 'it returns false'. Refute it at one input. -/
def balloonBackWrong : ChangeSpec := { name := "balloonBack", fn := fun _ => fun
  | [d] => { results := [.lit (.bool false)], args := [d] }
  | _ => none }
def BalloonBackWrongFalsely : Prop := balloonBackRow.holds Tryd.pinned (OpenSpec.ofChange balloonBackWrong)

/-- 'palisadelaw25.BalloonNobody': WHATEVER THE INPUT: true; the input reads as it did. -/
def balloonNobodySpec : ChangeSpec := { name := "balloonNobody", fn := fun _ => fun
  | [d] => { results := [.lit (.bool true)], args := [d] }
  | _ => none }
def balloonNobodyRow : OpenClaim := { program := "ytlchlklbjocliaadoor", sum := "db6ac06674a3744091beb8a9d916f4bc9337c7297361799853c0e3f2a10cfc97", func := "palisade/palisadelaw25.BalloonNobody", spec := "balloonNobody", unfollowed := true, recurses := true, named := ["palisade/word.widths", "palisade/entry.places"], apart := false, laid := [("palisade/word.widths", laid_palisade_word_widths), ("palisade/entry.places", laid_palisade_entry_places)] }
def BalloonNobodySaid : Prop := balloonNobodyRow.holds Tryd.pinned (OpenSpec.ofChange balloonNobodySpec)

/-- ITS FALSE NEIGHBOUR: 'it returns false'. Refute it at one input. -/
def balloonNobodyWrong : ChangeSpec := { name := "balloonNobody", fn := fun _ => fun
  | [d] => { results := [.lit (.bool false)], args := [d] }
  | _ => none }
def BalloonNobodyWrongFalsely : Prop := balloonNobodyRow.holds Tryd.pinned (OpenSpec.ofChange balloonNobodyWrong)

/-- 'palisadelaw25.BalloonPlays': WHATEVER THE INPUT: true; the input reads as it did. -/
def balloonPlaysSpec : ChangeSpec := { name := "balloonPlays", fn := fun _ => fun
  | [d] => { results := [.lit (.bool true)], args := [d] }
  | _ => none }
def balloonPlaysRow : OpenClaim := { program := "ytlchlklbjocliaadoor", sum := "db6ac06674a3744091beb8a9d916f4bc9337c7297361799853c0e3f2a10cfc97", func := "palisade/palisadelaw25.BalloonPlays", spec := "balloonPlays", unfollowed := true, recurses := true, named := ["palisade/word.widths", "palisade/entry.places"], apart := false, laid := [("palisade/word.widths", laid_palisade_word_widths), ("palisade/entry.places", laid_palisade_entry_places)] }
def BalloonPlaysSaid : Prop := balloonPlaysRow.holds Tryd.pinned (OpenSpec.ofChange balloonPlaysSpec)

/-- ITS FALSE NEIGHBOUR: 'it returns false'. Refute it at one input. -/
def balloonPlaysWrong : ChangeSpec := { name := "balloonPlays", fn := fun _ => fun
  | [d] => { results := [.lit (.bool false)], args := [d] }
  | _ => none }
def BalloonPlaysWrongFalsely : Prop := balloonPlaysRow.holds Tryd.pinned (OpenSpec.ofChange balloonPlaysWrong)

/- THE SECOND FORM. 'bulk': how many values and letters a reading holds, each counted each time it is reached (what is shared counts as often as it is met; a slice's spare places count too). A statement '..UptoSaid' is the law's where the arguments, and the package variables that the reading takes, are together of bulk at most 1048576: NARROWER than '..Said'. Prove '..Said' where nothing that the law and all that it calls make is longer than what came in: it says more and counts as full. Else prove '..UptoSaid'. A law counts once. -/
mutual
def uptoBulk {H : Type} : DataW H → Nat
  | .lit (.string bytes) => bytes.length + 1
  | .lit _ => 1
  | .nil => 1
  | .ptr d => uptoBulk d + 1
  | .slice elems spare => uptoBulkAll elems + uptoBulkAll spare + 1
  | .agg parts => uptoBulkAll parts + 1
  | .iface _ d => uptoBulk d + 1
  | .map entries => uptoBulkEntries entries + 1
  | .held _ => 1
def uptoBulkAll {H : Type} : List (DataW H) → Nat
  | [] => 0
  | d :: r => uptoBulk d + uptoBulkAll r
def uptoBulkEntries {H : Type} : List (Lit × DataW H) → Nat
  | [] => 0
  | x :: r => uptoBulkEntry x + uptoBulkEntries r
def uptoBulkEntry {H : Type} : Lit × DataW H → Nat
  | (.string bytes, d) => bytes.length + uptoBulk d + 1
  | (_, d) => uptoBulk d + 1
 end
def uptoSmall : (H : Type) → List (DataW H) → Bool := fun _ ds => decide (uptoBulkAll ds ≤ 1048576)
def OpenSpec.upto (s : _root_.Go.ChangeSpec) : _root_.Go.OpenSpec := { _root_.Go.OpenSpec.ofChange s with cond := some uptoSmall }

/-- 'palisadelaw17.StageNobody', WHERE WHAT IT READS IS OF BULK AT MOST 1048576: true; the input reads as it did. -/
def stageNobodyUptoRow : OpenClaim := { program := "ytlchlklbjocliaadoor", sum := "db6ac06674a3744091beb8a9d916f4bc9337c7297361799853c0e3f2a10cfc97", func := "palisade/palisadelaw17.StageNobody", spec := "stageNobody", unfollowed := true, recurses := true, named := ["palisade/word.widths", "palisade/entry.places"], apart := false, laid := [("palisade/word.widths", laid_palisade_word_widths), ("palisade/entry.places", laid_palisade_entry_places)], narrowed := true }
def StageNobodyUptoSaid : Prop := stageNobodyUptoRow.holds Tryd.pinned (OpenSpec.upto stageNobodySpec)

/-- 'palisadelaw17.StageBack', WHERE WHAT IT READS IS OF BULK AT MOST 1048576: true; the input reads as it did. -/
def stageBackUptoRow : OpenClaim := { program := "ytlchlklbjocliaadoor", sum := "db6ac06674a3744091beb8a9d916f4bc9337c7297361799853c0e3f2a10cfc97", func := "palisade/palisadelaw17.StageBack", spec := "stageBack", unfollowed := true, recurses := true, named := ["palisade/word.widths", "palisade/entry.places"], apart := false, laid := [("palisade/word.widths", laid_palisade_word_widths), ("palisade/entry.places", laid_palisade_entry_places)], narrowed := true }
def StageBackUptoSaid : Prop := stageBackUptoRow.holds Tryd.pinned (OpenSpec.upto stageBackSpec)

/-- 'palisadelaw17.StagePlays', WHERE WHAT IT READS IS OF BULK AT MOST 1048576: true; the input reads as it did. -/
def stagePlaysUptoRow : OpenClaim := { program := "ytlchlklbjocliaadoor", sum := "db6ac06674a3744091beb8a9d916f4bc9337c7297361799853c0e3f2a10cfc97", func := "palisade/palisadelaw17.StagePlays", spec := "stagePlays", unfollowed := true, recurses := true, named := ["palisade/word.widths", "palisade/entry.places"], apart := false, laid := [("palisade/word.widths", laid_palisade_word_widths), ("palisade/entry.places", laid_palisade_entry_places)], narrowed := true }
def StagePlaysUptoSaid : Prop := stagePlaysUptoRow.holds Tryd.pinned (OpenSpec.upto stagePlaysSpec)

/-- 'palisadelaw17.StageRights', WHERE WHAT IT READS IS OF BULK AT MOST 1048576: true; the input reads as it did. -/
def stageRightsUptoRow : OpenClaim := { program := "ytlchlklbjocliaadoor", sum := "db6ac06674a3744091beb8a9d916f4bc9337c7297361799853c0e3f2a10cfc97", func := "palisade/palisadelaw17.StageRights", spec := "stageRights", unfollowed := true, recurses := true, named := ["palisade/word.widths", "palisade/entry.places"], apart := false, laid := [("palisade/word.widths", laid_palisade_word_widths), ("palisade/entry.places", laid_palisade_entry_places)], narrowed := true }
def StageRightsUptoSaid : Prop := stageRightsUptoRow.holds Tryd.pinned (OpenSpec.upto stageRightsSpec)

/-- 'palisadelaw17.StageWalks', WHERE WHAT IT READS IS OF BULK AT MOST 1048576: true; the input reads as it did. -/
def stageWalksUptoRow : OpenClaim := { program := "ytlchlklbjocliaadoor", sum := "db6ac06674a3744091beb8a9d916f4bc9337c7297361799853c0e3f2a10cfc97", func := "palisade/palisadelaw17.StageWalks", spec := "stageWalks", unfollowed := true, recurses := true, named := ["palisade/word.widths", "palisade/entry.places"], apart := false, laid := [("palisade/word.widths", laid_palisade_word_widths), ("palisade/entry.places", laid_palisade_entry_places)], narrowed := true }
def StageWalksUptoSaid : Prop := stageWalksUptoRow.holds Tryd.pinned (OpenSpec.upto stageWalksSpec)

/-- 'palisadelaw25.BalloonApart', WHERE WHAT IT READS IS OF BULK AT MOST 1048576: true; the input reads as it did. -/
def balloonApartUptoRow : OpenClaim := { program := "ytlchlklbjocliaadoor", sum := "db6ac06674a3744091beb8a9d916f4bc9337c7297361799853c0e3f2a10cfc97", func := "palisade/palisadelaw25.BalloonApart", spec := "balloonApart", unfollowed := true, recurses := true, named := ["palisade/word.widths", "palisade/entry.places"], apart := false, laid := [("palisade/word.widths", laid_palisade_word_widths), ("palisade/entry.places", laid_palisade_entry_places)], narrowed := true }
def BalloonApartUptoSaid : Prop := balloonApartUptoRow.holds Tryd.pinned (OpenSpec.upto balloonApartSpec)

/-- 'palisadelaw25.BalloonBack', WHERE WHAT IT READS IS OF BULK AT MOST 1048576: true; the input reads as it did. -/
def balloonBackUptoRow : OpenClaim := { program := "ytlchlklbjocliaadoor", sum := "db6ac06674a3744091beb8a9d916f4bc9337c7297361799853c0e3f2a10cfc97", func := "palisade/palisadelaw25.BalloonBack", spec := "balloonBack", unfollowed := true, recurses := true, named := ["palisade/word.widths", "palisade/entry.places"], apart := false, laid := [("palisade/word.widths", laid_palisade_word_widths), ("palisade/entry.places", laid_palisade_entry_places)], narrowed := true }
def BalloonBackUptoSaid : Prop := balloonBackUptoRow.holds Tryd.pinned (OpenSpec.upto balloonBackSpec)

/-- 'palisadelaw25.BalloonNobody', WHERE WHAT IT READS IS OF BULK AT MOST 1048576: true; the input reads as it did. -/
def balloonNobodyUptoRow : OpenClaim := { program := "ytlchlklbjocliaadoor", sum := "db6ac06674a3744091beb8a9d916f4bc9337c7297361799853c0e3f2a10cfc97", func := "palisade/palisadelaw25.BalloonNobody", spec := "balloonNobody", unfollowed := true, recurses := true, named := ["palisade/word.widths", "palisade/entry.places"], apart := false, laid := [("palisade/word.widths", laid_palisade_word_widths), ("palisade/entry.places", laid_palisade_entry_places)], narrowed := true }
def BalloonNobodyUptoSaid : Prop := balloonNobodyUptoRow.holds Tryd.pinned (OpenSpec.upto balloonNobodySpec)

/-- 'palisadelaw25.BalloonPlays', WHERE WHAT IT READS IS OF BULK AT MOST 1048576: true; the input reads as it did. -/
def balloonPlaysUptoRow : OpenClaim := { program := "ytlchlklbjocliaadoor", sum := "db6ac06674a3744091beb8a9d916f4bc9337c7297361799853c0e3f2a10cfc97", func := "palisade/palisadelaw25.BalloonPlays", spec := "balloonPlays", unfollowed := true, recurses := true, named := ["palisade/word.widths", "palisade/entry.places"], apart := false, laid := [("palisade/word.widths", laid_palisade_word_widths), ("palisade/entry.places", laid_palisade_entry_places)], narrowed := true }
def BalloonPlaysUptoSaid : Prop := balloonPlaysUptoRow.holds Tryd.pinned (OpenSpec.upto balloonPlaysSpec)

end Rows
end Go.Proofs.YtlchlklbjocliaaDoor
