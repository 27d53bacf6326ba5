/-
  DERIVED. GIVEN WITH THE SEED: THE CARDS: each row of YtlchlklbjocliaaDoorRows.lean that lists a variable, with what it lists TIED to the program's text (the seventh form; the later family's looks); each row that meets fmt, with fmt's text TOLD by the authors' own Lean function (tested against real Go, not proved from fmt's source: count such statements apart). THE CARD IS WHAT COUNTS. Prove the row's statement (the work); the ties are given (YtlchlklbjocliaaDoorTie.lean); close each card by the builder's one call (the guide's Derived/Test/ToyasCard.lean, 'card_holds'). Laid BY PROGRAM, IN A SANDBOX (cutbox-door.mjs). By AI agents, Wed Nov 11 2026. No macro, syntax, notation, axiom, sorry.
-/
import Derived.Test.YtlchlklbjocliaaDoorRows
import GoSem.ClaimSeven
namespace Go.Proofs.YtlchlklbjocliaaDoor
namespace Rows

/-- THE TIED CARD OF 'palisadelaw17.StageNobody'. -/
def stageNobodyCard : Claim7 := { stood := { row := stageNobodyRow, standIns := [], harness := (true, "b5b58d1c423fc1d347b28016f7e0be95e1d084030f88a9e151790a2169e9c99b"), looks := false }, kinds := [], alts := [], laidByText := true, laidKinds := [.data, .data], laidTests := true, laidLooks := .later }
def StageNobodyCardSaid : Prop := Claim7.holds Tryd.pinned (.plain (OpenSpec.ofChange stageNobodySpec)) stageNobodyCard

/-- THE TIED CARD OF 'palisadelaw17.StageBack'. -/
def stageBackCard : Claim7 := { stood := { row := stageBackRow, standIns := [], harness := (true, "b5b58d1c423fc1d347b28016f7e0be95e1d084030f88a9e151790a2169e9c99b"), looks := false }, kinds := [], alts := [], laidByText := true, laidKinds := [.data, .data], laidTests := true, laidLooks := .later }
def StageBackCardSaid : Prop := Claim7.holds Tryd.pinned (.plain (OpenSpec.ofChange stageBackSpec)) stageBackCard

/-- THE TIED CARD OF 'palisadelaw17.StagePlays'. -/
def stagePlaysCard : Claim7 := { stood := { row := stagePlaysRow, standIns := [], harness := (true, "b5b58d1c423fc1d347b28016f7e0be95e1d084030f88a9e151790a2169e9c99b"), looks := false }, kinds := [], alts := [], laidByText := true, laidKinds := [.data, .data], laidTests := true, laidLooks := .later }
def StagePlaysCardSaid : Prop := Claim7.holds Tryd.pinned (.plain (OpenSpec.ofChange stagePlaysSpec)) stagePlaysCard

/-- THE TIED CARD OF 'palisadelaw17.StageRights'. -/
def stageRightsCard : Claim7 := { stood := { row := stageRightsRow, standIns := [], harness := (true, "b5b58d1c423fc1d347b28016f7e0be95e1d084030f88a9e151790a2169e9c99b"), looks := false }, kinds := [], alts := [], laidByText := true, laidKinds := [.data, .data], laidTests := true, laidLooks := .later }
def StageRightsCardSaid : Prop := Claim7.holds Tryd.pinned (.plain (OpenSpec.ofChange stageRightsSpec)) stageRightsCard

/-- THE TIED CARD OF 'palisadelaw17.StageWalks'. -/
def stageWalksCard : Claim7 := { stood := { row := stageWalksRow, standIns := [], harness := (true, "b5b58d1c423fc1d347b28016f7e0be95e1d084030f88a9e151790a2169e9c99b"), looks := false }, kinds := [], alts := [], laidByText := true, laidKinds := [.data, .data], laidTests := true, laidLooks := .later }
def StageWalksCardSaid : Prop := Claim7.holds Tryd.pinned (.plain (OpenSpec.ofChange stageWalksSpec)) stageWalksCard

/-- THE TIED CARD OF 'palisadelaw25.BalloonApart'. -/
def balloonApartCard : Claim7 := { stood := { row := balloonApartRow, standIns := [], harness := (true, "b5b58d1c423fc1d347b28016f7e0be95e1d084030f88a9e151790a2169e9c99b"), looks := false }, kinds := [], alts := [], laidByText := true, laidKinds := [.data, .data], laidTests := true, laidLooks := .later }
def BalloonApartCardSaid : Prop := Claim7.holds Tryd.pinned (.plain (OpenSpec.ofChange balloonApartSpec)) balloonApartCard

/-- THE TIED CARD OF 'palisadelaw25.BalloonBack'. -/
def balloonBackCard : Claim7 := { stood := { row := balloonBackRow, standIns := [], harness := (true, "b5b58d1c423fc1d347b28016f7e0be95e1d084030f88a9e151790a2169e9c99b"), looks := false }, kinds := [], alts := [], laidByText := true, laidKinds := [.data, .data], laidTests := true, laidLooks := .later }
def BalloonBackCardSaid : Prop := Claim7.holds Tryd.pinned (.plain (OpenSpec.ofChange balloonBackSpec)) balloonBackCard

/-- THE TIED CARD OF 'palisadelaw25.BalloonNobody'. -/
def balloonNobodyCard : Claim7 := { stood := { row := balloonNobodyRow, standIns := [], harness := (true, "b5b58d1c423fc1d347b28016f7e0be95e1d084030f88a9e151790a2169e9c99b"), looks := false }, kinds := [], alts := [], laidByText := true, laidKinds := [.data, .data], laidTests := true, laidLooks := .later }
def BalloonNobodyCardSaid : Prop := Claim7.holds Tryd.pinned (.plain (OpenSpec.ofChange balloonNobodySpec)) balloonNobodyCard

/-- THE TIED CARD OF 'palisadelaw25.BalloonPlays'. -/
def balloonPlaysCard : Claim7 := { stood := { row := balloonPlaysRow, standIns := [], harness := (true, "b5b58d1c423fc1d347b28016f7e0be95e1d084030f88a9e151790a2169e9c99b"), looks := false }, kinds := [], alts := [], laidByText := true, laidKinds := [.data, .data], laidTests := true, laidLooks := .later }
def BalloonPlaysCardSaid : Prop := Claim7.holds Tryd.pinned (.plain (OpenSpec.ofChange balloonPlaysSpec)) balloonPlaysCard

/-- THE SECOND FORM's CARD OF 'palisadelaw17.StageNobody'. -/
def stageNobodyUptoCard : Claim7 := { stood := { row := stageNobodyUptoRow, standIns := [], harness := (true, "b5b58d1c423fc1d347b28016f7e0be95e1d084030f88a9e151790a2169e9c99b"), looks := false }, kinds := [], alts := [], laidByText := true, laidKinds := [.data, .data], laidTests := true, laidLooks := .later }
def StageNobodyUptoCardSaid : Prop := Claim7.holds Tryd.pinned (.plain (OpenSpec.upto stageNobodySpec)) stageNobodyUptoCard

/-- THE SECOND FORM's CARD OF 'palisadelaw17.StageBack'. -/
def stageBackUptoCard : Claim7 := { stood := { row := stageBackUptoRow, standIns := [], harness := (true, "b5b58d1c423fc1d347b28016f7e0be95e1d084030f88a9e151790a2169e9c99b"), looks := false }, kinds := [], alts := [], laidByText := true, laidKinds := [.data, .data], laidTests := true, laidLooks := .later }
def StageBackUptoCardSaid : Prop := Claim7.holds Tryd.pinned (.plain (OpenSpec.upto stageBackSpec)) stageBackUptoCard

/-- THE SECOND FORM's CARD OF 'palisadelaw17.StagePlays'. -/
def stagePlaysUptoCard : Claim7 := { stood := { row := stagePlaysUptoRow, standIns := [], harness := (true, "b5b58d1c423fc1d347b28016f7e0be95e1d084030f88a9e151790a2169e9c99b"), looks := false }, kinds := [], alts := [], laidByText := true, laidKinds := [.data, .data], laidTests := true, laidLooks := .later }
def StagePlaysUptoCardSaid : Prop := Claim7.holds Tryd.pinned (.plain (OpenSpec.upto stagePlaysSpec)) stagePlaysUptoCard

/-- THE SECOND FORM's CARD OF 'palisadelaw17.StageRights'. -/
def stageRightsUptoCard : Claim7 := { stood := { row := stageRightsUptoRow, standIns := [], harness := (true, "b5b58d1c423fc1d347b28016f7e0be95e1d084030f88a9e151790a2169e9c99b"), looks := false }, kinds := [], alts := [], laidByText := true, laidKinds := [.data, .data], laidTests := true, laidLooks := .later }
def StageRightsUptoCardSaid : Prop := Claim7.holds Tryd.pinned (.plain (OpenSpec.upto stageRightsSpec)) stageRightsUptoCard

/-- THE SECOND FORM's CARD OF 'palisadelaw17.StageWalks'. -/
def stageWalksUptoCard : Claim7 := { stood := { row := stageWalksUptoRow, standIns := [], harness := (true, "b5b58d1c423fc1d347b28016f7e0be95e1d084030f88a9e151790a2169e9c99b"), looks := false }, kinds := [], alts := [], laidByText := true, laidKinds := [.data, .data], laidTests := true, laidLooks := .later }
def StageWalksUptoCardSaid : Prop := Claim7.holds Tryd.pinned (.plain (OpenSpec.upto stageWalksSpec)) stageWalksUptoCard

/-- THE SECOND FORM's CARD OF 'palisadelaw25.BalloonApart'. -/
def balloonApartUptoCard : Claim7 := { stood := { row := balloonApartUptoRow, standIns := [], harness := (true, "b5b58d1c423fc1d347b28016f7e0be95e1d084030f88a9e151790a2169e9c99b"), looks := false }, kinds := [], alts := [], laidByText := true, laidKinds := [.data, .data], laidTests := true, laidLooks := .later }
def BalloonApartUptoCardSaid : Prop := Claim7.holds Tryd.pinned (.plain (OpenSpec.upto balloonApartSpec)) balloonApartUptoCard

/-- THE SECOND FORM's CARD OF 'palisadelaw25.BalloonBack'. -/
def balloonBackUptoCard : Claim7 := { stood := { row := balloonBackUptoRow, standIns := [], harness := (true, "b5b58d1c423fc1d347b28016f7e0be95e1d084030f88a9e151790a2169e9c99b"), looks := false }, kinds := [], alts := [], laidByText := true, laidKinds := [.data, .data], laidTests := true, laidLooks := .later }
def BalloonBackUptoCardSaid : Prop := Claim7.holds Tryd.pinned (.plain (OpenSpec.upto balloonBackSpec)) balloonBackUptoCard

/-- THE SECOND FORM's CARD OF 'palisadelaw25.BalloonNobody'. -/
def balloonNobodyUptoCard : Claim7 := { stood := { row := balloonNobodyUptoRow, standIns := [], harness := (true, "b5b58d1c423fc1d347b28016f7e0be95e1d084030f88a9e151790a2169e9c99b"), looks := false }, kinds := [], alts := [], laidByText := true, laidKinds := [.data, .data], laidTests := true, laidLooks := .later }
def BalloonNobodyUptoCardSaid : Prop := Claim7.holds Tryd.pinned (.plain (OpenSpec.upto balloonNobodySpec)) balloonNobodyUptoCard

/-- THE SECOND FORM's CARD OF 'palisadelaw25.BalloonPlays'. -/
def balloonPlaysUptoCard : Claim7 := { stood := { row := balloonPlaysUptoRow, standIns := [], harness := (true, "b5b58d1c423fc1d347b28016f7e0be95e1d084030f88a9e151790a2169e9c99b"), looks := false }, kinds := [], alts := [], laidByText := true, laidKinds := [.data, .data], laidTests := true, laidLooks := .later }
def BalloonPlaysUptoCardSaid : Prop := Claim7.holds Tryd.pinned (.plain (OpenSpec.upto balloonPlaysSpec)) balloonPlaysUptoCard
end Rows
end Go.Proofs.YtlchlklbjocliaaDoor
