/-
  DERIVED. GIVEN WITH THE SEED: THE CARDS: each row of YtbiadhgkpggdeaaDoorRows.lean that lists a variable, with what it lists TIED to the program's text (the seventh form; the later family's looks); each row that meets fmt, with fmt's text TOLD by the authors' own Lean function (tested against real Go, not proved from fmt's source: count such statements apart). THE CARD IS WHAT COUNTS. Prove the row's statement (the work); the ties are given (YtbiadhgkpggdeaaDoorTie.lean); close each card by the builder's one call (the guide's Derived/Test/ToyasCard.lean, 'card_holds'). Laid BY PROGRAM, IN A SANDBOX (cutbox-door.mjs). By AI agents, Wed Nov 11 2026. No macro, syntax, notation, axiom, sorry.
-/
import Derived.Test.YtbiadhgkpggdeaaDoorRows
import GoSem.ClaimSeven
namespace Go.Proofs.YtbiadhgkpggdeaaDoor
namespace Rows

/-- THE TIED CARD OF 'palisadelaw15.TicketTurns'. -/
def ticketTurnsCard : Claim7 := { stood := { row := ticketTurnsRow, standIns := [], harness := (true, "735a10f09799d375ebf3fe2966f6d97246bfa402054b48035b9b946cb652a6fa"), looks := false }, kinds := [], alts := [], laidByText := true, laidKinds := [.data, .data], laidTests := true, laidLooks := .later }
def TicketTurnsCardSaid : Prop := Claim7.holds Tryd.pinned (.plain (OpenSpec.ofChange ticketTurnsSpec)) ticketTurnsCard

/-- THE TIED CARD OF 'palisadelaw15.TicketCounts'. -/
def ticketCountsCard : Claim7 := { stood := { row := ticketCountsRow, standIns := [], harness := (true, "735a10f09799d375ebf3fe2966f6d97246bfa402054b48035b9b946cb652a6fa"), looks := false }, kinds := [], alts := [], laidByText := true, laidKinds := [.data, .data], laidTests := true, laidLooks := .later }
def TicketCountsCardSaid : Prop := Claim7.holds Tryd.pinned (.plain (OpenSpec.ofChange ticketCountsSpec)) ticketCountsCard

/-- THE TIED CARD OF 'palisadelaw15.TicketNobody'. -/
def ticketNobodyCard : Claim7 := { stood := { row := ticketNobodyRow, standIns := [], harness := (true, "735a10f09799d375ebf3fe2966f6d97246bfa402054b48035b9b946cb652a6fa"), looks := false }, kinds := [], alts := [], laidByText := true, laidKinds := [.data, .data], laidTests := true, laidLooks := .later }
def TicketNobodyCardSaid : Prop := Claim7.holds Tryd.pinned (.plain (OpenSpec.ofChange ticketNobodySpec)) ticketNobodyCard

/-- THE TIED CARD OF 'palisadelaw15.TicketPlays'. -/
def ticketPlaysCard : Claim7 := { stood := { row := ticketPlaysRow, standIns := [], harness := (true, "735a10f09799d375ebf3fe2966f6d97246bfa402054b48035b9b946cb652a6fa"), looks := false }, kinds := [], alts := [], laidByText := true, laidKinds := [.data, .data], laidTests := true, laidLooks := .later }
def TicketPlaysCardSaid : Prop := Claim7.holds Tryd.pinned (.plain (OpenSpec.ofChange ticketPlaysSpec)) ticketPlaysCard

/-- THE TIED CARD OF 'palisadelaw15.TicketOne'. -/
def ticketOneCard : Claim7 := { stood := { row := ticketOneRow, standIns := [], harness := (true, "735a10f09799d375ebf3fe2966f6d97246bfa402054b48035b9b946cb652a6fa"), looks := false }, kinds := [], alts := [], laidByText := true, laidKinds := [.data, .data], laidTests := true, laidLooks := .later }
def TicketOneCardSaid : Prop := Claim7.holds Tryd.pinned (.plain (OpenSpec.ofChange ticketOneSpec)) ticketOneCard

/-- THE SECOND FORM's CARD OF 'palisadelaw15.TicketTurns'. -/
def ticketTurnsUptoCard : Claim7 := { stood := { row := ticketTurnsUptoRow, standIns := [], harness := (true, "735a10f09799d375ebf3fe2966f6d97246bfa402054b48035b9b946cb652a6fa"), looks := false }, kinds := [], alts := [], laidByText := true, laidKinds := [.data, .data], laidTests := true, laidLooks := .later }
def TicketTurnsUptoCardSaid : Prop := Claim7.holds Tryd.pinned (.plain (OpenSpec.upto ticketTurnsSpec)) ticketTurnsUptoCard

/-- THE SECOND FORM's CARD OF 'palisadelaw15.TicketCounts'. -/
def ticketCountsUptoCard : Claim7 := { stood := { row := ticketCountsUptoRow, standIns := [], harness := (true, "735a10f09799d375ebf3fe2966f6d97246bfa402054b48035b9b946cb652a6fa"), looks := false }, kinds := [], alts := [], laidByText := true, laidKinds := [.data, .data], laidTests := true, laidLooks := .later }
def TicketCountsUptoCardSaid : Prop := Claim7.holds Tryd.pinned (.plain (OpenSpec.upto ticketCountsSpec)) ticketCountsUptoCard

/-- THE SECOND FORM's CARD OF 'palisadelaw15.TicketNobody'. -/
def ticketNobodyUptoCard : Claim7 := { stood := { row := ticketNobodyUptoRow, standIns := [], harness := (true, "735a10f09799d375ebf3fe2966f6d97246bfa402054b48035b9b946cb652a6fa"), looks := false }, kinds := [], alts := [], laidByText := true, laidKinds := [.data, .data], laidTests := true, laidLooks := .later }
def TicketNobodyUptoCardSaid : Prop := Claim7.holds Tryd.pinned (.plain (OpenSpec.upto ticketNobodySpec)) ticketNobodyUptoCard

/-- THE SECOND FORM's CARD OF 'palisadelaw15.TicketPlays'. -/
def ticketPlaysUptoCard : Claim7 := { stood := { row := ticketPlaysUptoRow, standIns := [], harness := (true, "735a10f09799d375ebf3fe2966f6d97246bfa402054b48035b9b946cb652a6fa"), looks := false }, kinds := [], alts := [], laidByText := true, laidKinds := [.data, .data], laidTests := true, laidLooks := .later }
def TicketPlaysUptoCardSaid : Prop := Claim7.holds Tryd.pinned (.plain (OpenSpec.upto ticketPlaysSpec)) ticketPlaysUptoCard

/-- THE SECOND FORM's CARD OF 'palisadelaw15.TicketOne'. -/
def ticketOneUptoCard : Claim7 := { stood := { row := ticketOneUptoRow, standIns := [], harness := (true, "735a10f09799d375ebf3fe2966f6d97246bfa402054b48035b9b946cb652a6fa"), looks := false }, kinds := [], alts := [], laidByText := true, laidKinds := [.data, .data], laidTests := true, laidLooks := .later }
def TicketOneUptoCardSaid : Prop := Claim7.holds Tryd.pinned (.plain (OpenSpec.upto ticketOneSpec)) ticketOneUptoCard
end Rows
end Go.Proofs.YtbiadhgkpggdeaaDoor
