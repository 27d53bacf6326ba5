/-
  DERIVED. GIVEN WITH THE SEED: THE CARDS: each row of YtnkmelhggnelmaaDoorRows.lean that lists a variable, with what it lists TIED to the program's text (the seventh form; the later family's looks); each row that meets fmt, with fmt's text TOLD by the authors' own Lean function (tested against real Go, not proved from fmt's source: count such statements apart). THE CARD IS WHAT COUNTS. Prove the row's statement (the work); the ties are given (YtnkmelhggnelmaaDoorTie.lean); close each card by the builder's one call (the guide's Derived/Test/ToyasCard.lean, 'card_holds'). Laid BY PROGRAM, IN A SANDBOX (cutbox-door.mjs). By AI agents, Wed Nov 11 2026. No macro, syntax, notation, axiom, sorry.
-/
import Derived.Test.YtnkmelhggnelmaaDoorRows
import GoSem.ClaimSeven
namespace Go.Proofs.YtnkmelhggnelmaaDoor
namespace Rows

/-- THE TIED CARD OF 'palisadelaw06.WalkWhole'. -/
def walkWholeCard : Claim7 := { stood := { row := walkWholeRow, standIns := [], harness := (true, "949ad3ce9e176584c3231902143f3da4f6d1b63296ee491ceff70340be10f441"), looks := false }, kinds := [], alts := [], laidByText := true, laidKinds := [.data, .data], laidTests := true, laidLooks := .later }
def WalkWholeCardSaid : Prop := Claim7.holds Tryd.pinned (.plain (OpenSpec.ofChange walkWholeSpec)) walkWholeCard

/-- THE TIED CARD OF 'palisadelaw06.WalkLies'. -/
def walkLiesCard : Claim7 := { stood := { row := walkLiesRow, standIns := [], harness := (true, "949ad3ce9e176584c3231902143f3da4f6d1b63296ee491ceff70340be10f441"), looks := false }, kinds := [], alts := [], laidByText := true, laidKinds := [.data, .data], laidTests := true, laidLooks := .later }
def WalkLiesCardSaid : Prop := Claim7.holds Tryd.pinned (.plain (OpenSpec.ofChange walkLiesSpec)) walkLiesCard

/-- THE SECOND FORM's CARD OF 'palisadelaw06.WalkWhole'. -/
def walkWholeUptoCard : Claim7 := { stood := { row := walkWholeUptoRow, standIns := [], harness := (true, "949ad3ce9e176584c3231902143f3da4f6d1b63296ee491ceff70340be10f441"), looks := false }, kinds := [], alts := [], laidByText := true, laidKinds := [.data, .data], laidTests := true, laidLooks := .later }
def WalkWholeUptoCardSaid : Prop := Claim7.holds Tryd.pinned (.plain (OpenSpec.upto walkWholeSpec)) walkWholeUptoCard

/-- THE SECOND FORM's CARD OF 'palisadelaw06.WalkLies'. -/
def walkLiesUptoCard : Claim7 := { stood := { row := walkLiesUptoRow, standIns := [], harness := (true, "949ad3ce9e176584c3231902143f3da4f6d1b63296ee491ceff70340be10f441"), looks := false }, kinds := [], alts := [], laidByText := true, laidKinds := [.data, .data], laidTests := true, laidLooks := .later }
def WalkLiesUptoCardSaid : Prop := Claim7.holds Tryd.pinned (.plain (OpenSpec.upto walkLiesSpec)) walkLiesUptoCard
end Rows
end Go.Proofs.YtnkmelhggnelmaaDoor
