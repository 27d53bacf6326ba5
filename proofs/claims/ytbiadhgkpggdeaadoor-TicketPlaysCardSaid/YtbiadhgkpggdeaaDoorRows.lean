/-
  NARROWER THAN 'FOR EVERY INPUT', by the rows' own cells (each row's printed sentence says how): TicketTurns: laid · TicketCounts: laid · TicketNobody: laid · TicketPlays: laid · TicketOne: laid.
  DERIVED. THE GIVEN ROWS OF THIS SEAT. 5 by the template 'for every input the law returns true; each argument reads behind the call as it read before'; 0 by the template 'total and deterministic' (their statements: YtbiadhgkpggdeaaDoorTotals.lean).
  GIVEN WITH THE SEED: the statements are not yours to turn. If you find one false, say at which input.
  Laid BY PROGRAM, IN A SANDBOX (cutbox-rows.mjs): the forced cells as the released guide's own fill.sh prints them over the translation ed701c5bd4471e32… (all of the seat's roots in one cut). By AI agents, Wed Nov 11 2026. No macro, syntax, notation, axiom, sorry.
-/
import Derived.Test.YtbiadhgkpggdeaaDoorChecked
import GoSem.Claim
import GoSem.ClaimJoined
import GoSem.ClaimMapViews
import Derived.JoinedTies
import Derived.KernelRfl
namespace Go.Proofs.YtbiadhgkpggdeaaDoor
/- THE CELL 'sum', in the pinned program and in every row, IS THE sha256 OF THE DUMP (.gsa) THAT YtbiadhgkpggdeaaDoorProg.lean LOADS. Nothing in Lean hashes anything: it is a label: what it is worth is what the hold of that sum in a sandbox is worth. -/
noncomputable def Tryd.pinned : Pinned := { name := "ytbiadhgkpggdeaadoor", sum := "ed701c5bd4471e325be8c7f29f67e9c26665f4aa1f146f7eeff62b2c6efeef9a", checked := Tryd.checked }
namespace Rows
def none {H : Type} : Left H := { results := [], args := [] }

/- WHAT THE LISTED PACKAGE-LEVEL VARIABLES READ AS WHEN THE CALL BEGINS. Each datum BY PROGRAM (the guide's laid-datum.mjs) off the statement by which the dump's own 'gosem.cut.vars' lays the variable. In a bare row this is a premise. The card (YtbiadhgkpggdeaaDoorCards.lean) ties it to the program's text. -/
def laid_palisade_word_widths {H : Type} : DataW H := .agg [.lit (.int .i64 1), .lit (.int .i64 0), .lit (.int .i64 4), .lit (.int .i64 8)]
def laid_palisade_ticket_follows {H : Type} : DataW H := .agg [.lit (.int .i64 0), .lit (.int .i64 2), .lit (.int .i64 3), .lit (.int .i64 3), .lit (.int .i64 0)]

/-- 'palisadelaw15.TicketTurns': WHATEVER THE INPUT: true; the input reads as it did. -/
def ticketTurnsSpec : ChangeSpec := { name := "ticketTurns", fn := fun _ => fun
  | [d1, d2] => { results := [.lit (.bool true)], args := [d1, d2] }
  | _ => none }
def ticketTurnsRow : OpenClaim := { program := "ytbiadhgkpggdeaadoor", sum := "ed701c5bd4471e325be8c7f29f67e9c26665f4aa1f146f7eeff62b2c6efeef9a", func := "palisade/palisadelaw15.TicketTurns", spec := "ticketTurns", unfollowed := true, recurses := true, named := ["palisade/ticket.follows", "palisade/word.widths"], apart := false, laid := [("palisade/word.widths", laid_palisade_word_widths), ("palisade/ticket.follows", laid_palisade_ticket_follows)] }
def TicketTurnsSaid : Prop := ticketTurnsRow.holds Tryd.pinned (OpenSpec.ofChange ticketTurnsSpec)

/-- ITS FALSE NEIGHBOUR: 'it returns false'. Refute it at one input. -/
def ticketTurnsWrong : ChangeSpec := { name := "ticketTurns", fn := fun _ => fun
  | [d1, d2] => { results := [.lit (.bool false)], args := [d1, d2] }
  | _ => none }
def TicketTurnsWrongFalsely : Prop := ticketTurnsRow.holds Tryd.pinned (OpenSpec.ofChange ticketTurnsWrong)

/-- 'palisadelaw15.TicketCounts': WHATEVER THE INPUT: true; the input reads as it did. -/
def ticketCountsSpec : ChangeSpec := { name := "ticketCounts", fn := fun _ => fun
  | [d1, d2] => { results := [.lit (.bool true)], args := [d1, d2] }
  | _ => none }
def ticketCountsRow : OpenClaim := { program := "ytbiadhgkpggdeaadoor", sum := "ed701c5bd4471e325be8c7f29f67e9c26665f4aa1f146f7eeff62b2c6efeef9a", func := "palisade/palisadelaw15.TicketCounts", spec := "ticketCounts", unfollowed := true, recurses := true, named := ["palisade/ticket.follows", "palisade/word.widths"], apart := false, laid := [("palisade/word.widths", laid_palisade_word_widths), ("palisade/ticket.follows", laid_palisade_ticket_follows)] }
def TicketCountsSaid : Prop := ticketCountsRow.holds Tryd.pinned (OpenSpec.ofChange ticketCountsSpec)

/-- ITS FALSE NEIGHBOUR: 'it returns false'. Refute it at one input. -/
def ticketCountsWrong : ChangeSpec := { name := "ticketCounts", fn := fun _ => fun
  | [d1, d2] => { results := [.lit (.bool false)], args := [d1, d2] }
  | _ => none }
def TicketCountsWrongFalsely : Prop := ticketCountsRow.holds Tryd.pinned (OpenSpec.ofChange ticketCountsWrong)

/-- 'palisadelaw15.TicketNobody': WHATEVER THE INPUT: true; the input reads as it did. -/
def ticketNobodySpec : ChangeSpec := { name := "ticketNobody", fn := fun _ => fun
  | [d] => { results := [.lit (.bool true)], args := [d] }
  | _ => none }
def ticketNobodyRow : OpenClaim := { program := "ytbiadhgkpggdeaadoor", sum := "ed701c5bd4471e325be8c7f29f67e9c26665f4aa1f146f7eeff62b2c6efeef9a", func := "palisade/palisadelaw15.TicketNobody", spec := "ticketNobody", unfollowed := true, recurses := true, named := ["palisade/ticket.follows", "palisade/word.widths"], apart := false, laid := [("palisade/word.widths", laid_palisade_word_widths), ("palisade/ticket.follows", laid_palisade_ticket_follows)] }
def TicketNobodySaid : Prop := ticketNobodyRow.holds Tryd.pinned (OpenSpec.ofChange ticketNobodySpec)

/-- ITS FALSE NEIGHBOUR: 'it returns false'. Refute it at one input. -/
def ticketNobodyWrong : ChangeSpec := { name := "ticketNobody", fn := fun _ => fun
  | [d] => { results := [.lit (.bool false)], args := [d] }
  | _ => none }
def TicketNobodyWrongFalsely : Prop := ticketNobodyRow.holds Tryd.pinned (OpenSpec.ofChange ticketNobodyWrong)

/-- 'palisadelaw15.TicketPlays': WHATEVER THE INPUT: true; the input reads as it did. -/
def ticketPlaysSpec : ChangeSpec := { name := "ticketPlays", fn := fun _ => fun
  | [d1, d2, d3] => { results := [.lit (.bool true)], args := [d1, d2, d3] }
  | _ => none }
def ticketPlaysRow : OpenClaim := { program := "ytbiadhgkpggdeaadoor", sum := "ed701c5bd4471e325be8c7f29f67e9c26665f4aa1f146f7eeff62b2c6efeef9a", func := "palisade/palisadelaw15.TicketPlays", spec := "ticketPlays", unfollowed := true, recurses := true, named := ["palisade/ticket.follows", "palisade/word.widths"], apart := false, laid := [("palisade/word.widths", laid_palisade_word_widths), ("palisade/ticket.follows", laid_palisade_ticket_follows)] }
def TicketPlaysSaid : Prop := ticketPlaysRow.holds Tryd.pinned (OpenSpec.ofChange ticketPlaysSpec)

/-- ITS FALSE NEIGHBOUR: 'it returns false'. Refute it at one input. -/
def ticketPlaysWrong : ChangeSpec := { name := "ticketPlays", fn := fun _ => fun
  | [d1, d2, d3] => { results := [.lit (.bool false)], args := [d1, d2, d3] }
  | _ => none }
def TicketPlaysWrongFalsely : Prop := ticketPlaysRow.holds Tryd.pinned (OpenSpec.ofChange ticketPlaysWrong)

/-- 'palisadelaw15.TicketOne': WHATEVER THE INPUT: true; the input reads as it did. -/
def ticketOneSpec : ChangeSpec := { name := "ticketOne", fn := fun _ => fun
  | [d1, d2] => { results := [.lit (.bool true)], args := [d1, d2] }
  | _ => none }
def ticketOneRow : OpenClaim := { program := "ytbiadhgkpggdeaadoor", sum := "ed701c5bd4471e325be8c7f29f67e9c26665f4aa1f146f7eeff62b2c6efeef9a", func := "palisade/palisadelaw15.TicketOne", spec := "ticketOne", unfollowed := true, recurses := true, named := ["palisade/ticket.follows", "palisade/word.widths"], apart := false, laid := [("palisade/word.widths", laid_palisade_word_widths), ("palisade/ticket.follows", laid_palisade_ticket_follows)] }
def TicketOneSaid : Prop := ticketOneRow.holds Tryd.pinned (OpenSpec.ofChange ticketOneSpec)

/-- ITS FALSE NEIGHBOUR: 'it returns false'. Refute it at one input. -/
def ticketOneWrong : ChangeSpec := { name := "ticketOne", fn := fun _ => fun
  | [d1, d2] => { results := [.lit (.bool false)], args := [d1, d2] }
  | _ => none }
def TicketOneWrongFalsely : Prop := ticketOneRow.holds Tryd.pinned (OpenSpec.ofChange ticketOneWrong)

/- THE SECOND FORM. 'bulk': how many values and letters a reading holds, each counted each time it is reached (what is shared counts as often as it is met; a slice's spare places count too). A statement '..UptoSaid' is the law's where the arguments, and the package variables that the reading takes, are together of bulk at most 1048576: NARROWER than '..Said'. Prove '..Said' where nothing that the law and all that it calls make is longer than what came in: it says more and counts as full. Else prove '..UptoSaid'. A law counts once. -/
mutual
def uptoBulk {H : Type} : DataW H → Nat
  | .lit (.string bytes) => bytes.length + 1
  | .lit _ => 1
  | .nil => 1
  | .ptr d => uptoBulk d + 1
  | .slice elems spare => uptoBulkAll elems + uptoBulkAll spare + 1
  | .agg parts => uptoBulkAll parts + 1
  | .iface _ d => uptoBulk d + 1
  | .map entries => uptoBulkEntries entries + 1
  | .held _ => 1
def uptoBulkAll {H : Type} : List (DataW H) → Nat
  | [] => 0
  | d :: r => uptoBulk d + uptoBulkAll r
def uptoBulkEntries {H : Type} : List (Lit × DataW H) → Nat
  | [] => 0
  | x :: r => uptoBulkEntry x + uptoBulkEntries r
def uptoBulkEntry {H : Type} : Lit × DataW H → Nat
  | (.string bytes, d) => bytes.length + uptoBulk d + 1
  | (_, d) => uptoBulk d + 1
 end
def uptoSmall : (H : Type) → List (DataW H) → Bool := fun _ ds => decide (uptoBulkAll ds ≤ 1048576)
def OpenSpec.upto (s : _root_.Go.ChangeSpec) : _root_.Go.OpenSpec := { _root_.Go.OpenSpec.ofChange s with cond := some uptoSmall }

/-- 'palisadelaw15.TicketTurns', WHERE WHAT IT READS IS OF BULK AT MOST 1048576: true; the input reads as it did. -/
def ticketTurnsUptoRow : OpenClaim := { program := "ytbiadhgkpggdeaadoor", sum := "ed701c5bd4471e325be8c7f29f67e9c26665f4aa1f146f7eeff62b2c6efeef9a", func := "palisade/palisadelaw15.TicketTurns", spec := "ticketTurns", unfollowed := true, recurses := true, named := ["palisade/ticket.follows", "palisade/word.widths"], apart := false, laid := [("palisade/word.widths", laid_palisade_word_widths), ("palisade/ticket.follows", laid_palisade_ticket_follows)], narrowed := true }
def TicketTurnsUptoSaid : Prop := ticketTurnsUptoRow.holds Tryd.pinned (OpenSpec.upto ticketTurnsSpec)

/-- 'palisadelaw15.TicketCounts', WHERE WHAT IT READS IS OF BULK AT MOST 1048576: true; the input reads as it did. -/
def ticketCountsUptoRow : OpenClaim := { program := "ytbiadhgkpggdeaadoor", sum := "ed701c5bd4471e325be8c7f29f67e9c26665f4aa1f146f7eeff62b2c6efeef9a", func := "palisade/palisadelaw15.TicketCounts", spec := "ticketCounts", unfollowed := true, recurses := true, named := ["palisade/ticket.follows", "palisade/word.widths"], apart := false, laid := [("palisade/word.widths", laid_palisade_word_widths), ("palisade/ticket.follows", laid_palisade_ticket_follows)], narrowed := true }
def TicketCountsUptoSaid : Prop := ticketCountsUptoRow.holds Tryd.pinned (OpenSpec.upto ticketCountsSpec)

/-- 'palisadelaw15.TicketNobody', WHERE WHAT IT READS IS OF BULK AT MOST 1048576: true; the input reads as it did. -/
def ticketNobodyUptoRow : OpenClaim := { program := "ytbiadhgkpggdeaadoor", sum := "ed701c5bd4471e325be8c7f29f67e9c26665f4aa1f146f7eeff62b2c6efeef9a", func := "palisade/palisadelaw15.TicketNobody", spec := "ticketNobody", unfollowed := true, recurses := true, named := ["palisade/ticket.follows", "palisade/word.widths"], apart := false, laid := [("palisade/word.widths", laid_palisade_word_widths), ("palisade/ticket.follows", laid_palisade_ticket_follows)], narrowed := true }
def TicketNobodyUptoSaid : Prop := ticketNobodyUptoRow.holds Tryd.pinned (OpenSpec.upto ticketNobodySpec)

/-- 'palisadelaw15.TicketPlays', WHERE WHAT IT READS IS OF BULK AT MOST 1048576: true; the input reads as it did. -/
def ticketPlaysUptoRow : OpenClaim := { program := "ytbiadhgkpggdeaadoor", sum := "ed701c5bd4471e325be8c7f29f67e9c26665f4aa1f146f7eeff62b2c6efeef9a", func := "palisade/palisadelaw15.TicketPlays", spec := "ticketPlays", unfollowed := true, recurses := true, named := ["palisade/ticket.follows", "palisade/word.widths"], apart := false, laid := [("palisade/word.widths", laid_palisade_word_widths), ("palisade/ticket.follows", laid_palisade_ticket_follows)], narrowed := true }
def TicketPlaysUptoSaid : Prop := ticketPlaysUptoRow.holds Tryd.pinned (OpenSpec.upto ticketPlaysSpec)

/-- 'palisadelaw15.TicketOne', WHERE WHAT IT READS IS OF BULK AT MOST 1048576: true; the input reads as it did. -/
def ticketOneUptoRow : OpenClaim := { program := "ytbiadhgkpggdeaadoor", sum := "ed701c5bd4471e325be8c7f29f67e9c26665f4aa1f146f7eeff62b2c6efeef9a", func := "palisade/palisadelaw15.TicketOne", spec := "ticketOne", unfollowed := true, recurses := true, named := ["palisade/ticket.follows", "palisade/word.widths"], apart := false, laid := [("palisade/word.widths", laid_palisade_word_widths), ("palisade/ticket.follows", laid_palisade_ticket_follows)], narrowed := true }
def TicketOneUptoSaid : Prop := ticketOneUptoRow.holds Tryd.pinned (OpenSpec.upto ticketOneSpec)

end Rows
end Go.Proofs.YtbiadhgkpggdeaaDoor
