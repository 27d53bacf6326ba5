/-
  DERIVED. GIVEN WITH THE SEED: THE CARDS: each row of YtoehigcojgeioaaDoorRows.lean that lists a variable, with what it lists TIED to the program's text (the seventh form; the later family's looks); each row that meets fmt, with fmt's text TOLD by the authors' own Lean function (tested against real Go, not proved from fmt's source: count such statements apart). THE CARD IS WHAT COUNTS. Prove the row's statement (the work); the ties are given (YtoehigcojgeioaaDoorTie.lean); close each card by the builder's one call (the guide's Derived/Test/ToyasCard.lean, 'card_holds'). Laid BY PROGRAM, IN A SANDBOX (cutbox-door.mjs). By AI agents, Wed Nov 11 2026. No macro, syntax, notation, axiom, sorry.
-/
import Derived.Test.YtoehigcojgeioaaDoorRows
import GoSem.ClaimSeven
namespace Go.Proofs.YtoehigcojgeioaaDoor
namespace Rows

/-- THE TIED CARD OF 'palisadelaw04.MemKeeps'. -/
def memKeepsCard : Claim7 := { stood := { row := memKeepsRow, standIns := [], harness := (true, "ed28b78d24818e94ddc7846712c8d0846d29d4445a0fe0f2696d7af5053bed1a"), looks := false }, kinds := [], alts := [], laidByText := true, laidKinds := [.data], laidTests := true, laidLooks := .later }
def MemKeepsCardSaid : Prop := Claim7.holds Tryd.pinned (.plain (OpenSpec.ofChange memKeepsSpec)) memKeepsCard

/-- THE TIED CARD OF 'palisadelaw04.MemEnds'. -/
def memEndsCard : Claim7 := { stood := { row := memEndsRow, standIns := [], harness := (true, "ed28b78d24818e94ddc7846712c8d0846d29d4445a0fe0f2696d7af5053bed1a"), looks := false }, kinds := [], alts := [], laidByText := true, laidKinds := [.data], laidTests := true, laidLooks := .later }
def MemEndsCardSaid : Prop := Claim7.holds Tryd.pinned (.plain (OpenSpec.ofChange memEndsSpec)) memEndsCard

/-- THE TIED CARD OF 'palisadelaw04.MemApart'. -/
def memApartCard : Claim7 := { stood := { row := memApartRow, standIns := [], harness := (true, "ed28b78d24818e94ddc7846712c8d0846d29d4445a0fe0f2696d7af5053bed1a"), looks := false }, kinds := [], alts := [], laidByText := true, laidKinds := [.data], laidTests := true, laidLooks := .later }
def MemApartCardSaid : Prop := Claim7.holds Tryd.pinned (.plain (OpenSpec.ofChange memApartSpec)) memApartCard

/-- THE TIED CARD OF 'palisadelaw04.MemPlays'. -/
def memPlaysCard : Claim7 := { stood := { row := memPlaysRow, standIns := [], harness := (true, "ed28b78d24818e94ddc7846712c8d0846d29d4445a0fe0f2696d7af5053bed1a"), looks := false }, kinds := [], alts := [], laidByText := true, laidKinds := [.data], laidTests := true, laidLooks := .later }
def MemPlaysCardSaid : Prop := Claim7.holds Tryd.pinned (.plain (OpenSpec.ofChange memPlaysSpec)) memPlaysCard

/-- THE TIED CARD OF 'palisadelaw04.MemNobody'. -/
def memNobodyCard : Claim7 := { stood := { row := memNobodyRow, standIns := [], harness := (true, "ed28b78d24818e94ddc7846712c8d0846d29d4445a0fe0f2696d7af5053bed1a"), looks := false }, kinds := [], alts := [], laidByText := true, laidKinds := [.data], laidTests := true, laidLooks := .later }
def MemNobodyCardSaid : Prop := Claim7.holds Tryd.pinned (.plain (OpenSpec.ofChange memNobodySpec)) memNobodyCard

/-- THE SECOND FORM's CARD OF 'palisadelaw04.MemKeeps'. -/
def memKeepsUptoCard : Claim7 := { stood := { row := memKeepsUptoRow, standIns := [], harness := (true, "ed28b78d24818e94ddc7846712c8d0846d29d4445a0fe0f2696d7af5053bed1a"), looks := false }, kinds := [], alts := [], laidByText := true, laidKinds := [.data], laidTests := true, laidLooks := .later }
def MemKeepsUptoCardSaid : Prop := Claim7.holds Tryd.pinned (.plain (OpenSpec.upto memKeepsSpec)) memKeepsUptoCard

/-- THE SECOND FORM's CARD OF 'palisadelaw04.MemEnds'. -/
def memEndsUptoCard : Claim7 := { stood := { row := memEndsUptoRow, standIns := [], harness := (true, "ed28b78d24818e94ddc7846712c8d0846d29d4445a0fe0f2696d7af5053bed1a"), looks := false }, kinds := [], alts := [], laidByText := true, laidKinds := [.data], laidTests := true, laidLooks := .later }
def MemEndsUptoCardSaid : Prop := Claim7.holds Tryd.pinned (.plain (OpenSpec.upto memEndsSpec)) memEndsUptoCard

/-- THE SECOND FORM's CARD OF 'palisadelaw04.MemApart'. -/
def memApartUptoCard : Claim7 := { stood := { row := memApartUptoRow, standIns := [], harness := (true, "ed28b78d24818e94ddc7846712c8d0846d29d4445a0fe0f2696d7af5053bed1a"), looks := false }, kinds := [], alts := [], laidByText := true, laidKinds := [.data], laidTests := true, laidLooks := .later }
def MemApartUptoCardSaid : Prop := Claim7.holds Tryd.pinned (.plain (OpenSpec.upto memApartSpec)) memApartUptoCard

/-- THE SECOND FORM's CARD OF 'palisadelaw04.MemPlays'. -/
def memPlaysUptoCard : Claim7 := { stood := { row := memPlaysUptoRow, standIns := [], harness := (true, "ed28b78d24818e94ddc7846712c8d0846d29d4445a0fe0f2696d7af5053bed1a"), looks := false }, kinds := [], alts := [], laidByText := true, laidKinds := [.data], laidTests := true, laidLooks := .later }
def MemPlaysUptoCardSaid : Prop := Claim7.holds Tryd.pinned (.plain (OpenSpec.upto memPlaysSpec)) memPlaysUptoCard

/-- THE SECOND FORM's CARD OF 'palisadelaw04.MemNobody'. -/
def memNobodyUptoCard : Claim7 := { stood := { row := memNobodyUptoRow, standIns := [], harness := (true, "ed28b78d24818e94ddc7846712c8d0846d29d4445a0fe0f2696d7af5053bed1a"), looks := false }, kinds := [], alts := [], laidByText := true, laidKinds := [.data], laidTests := true, laidLooks := .later }
def MemNobodyUptoCardSaid : Prop := Claim7.holds Tryd.pinned (.plain (OpenSpec.upto memNobodySpec)) memNobodyUptoCard
end Rows
end Go.Proofs.YtoehigcojgeioaaDoor
