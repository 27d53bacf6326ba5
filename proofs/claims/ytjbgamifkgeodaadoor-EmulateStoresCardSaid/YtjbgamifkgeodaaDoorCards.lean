/-
  DERIVED. GIVEN WITH THE SEED: THE CARDS: each row of YtjbgamifkgeodaaDoorRows.lean that lists a variable, with what it lists TIED to the program's text (the seventh form; the later family's looks); each row that meets fmt, with fmt's text TOLD by the authors' own Lean function (tested against real Go, not proved from fmt's source: count such statements apart). THE CARD IS WHAT COUNTS. Prove the row's statement (the work); the ties are given (YtjbgamifkgeodaaDoorTie.lean); close each card by the builder's one call (the guide's Derived/Test/ToyasCard.lean, 'card_holds'). Laid BY PROGRAM, IN A SANDBOX (cutbox-door.mjs). By AI agents, Wed Nov 11 2026. No macro, syntax, notation, axiom, sorry.
-/
import Derived.Test.YtjbgamifkgeodaaDoorRows
import GoSem.ClaimSeven
namespace Go.Proofs.YtjbgamifkgeodaaDoor
namespace Rows

/-- THE TIED CARD OF 'palisadelaw19.EmulateDecodes'. -/
def emulateDecodesCard : Claim7 := { stood := { row := emulateDecodesRow, standIns := [], harness := (true, "5dae829c254baee3fd762213b341cc5d34c72d5278e88dd61a02691aa9dedd7e"), looks := false }, kinds := [], alts := [], laidByText := true, laidKinds := [.data], laidTests := true, laidLooks := .later }
def EmulateDecodesCardSaid : Prop := Claim7.holds Tryd.pinned (.plain (OpenSpec.ofChange emulateDecodesSpec)) emulateDecodesCard

/-- THE TIED CARD OF 'palisadelaw19.EmulateStores'. -/
def emulateStoresCard : Claim7 := { stood := { row := emulateStoresRow, standIns := [], harness := (true, "5dae829c254baee3fd762213b341cc5d34c72d5278e88dd61a02691aa9dedd7e"), looks := false }, kinds := [], alts := [], laidByText := true, laidKinds := [.data], laidTests := true, laidLooks := .later }
def EmulateStoresCardSaid : Prop := Claim7.holds Tryd.pinned (.plain (OpenSpec.ofChange emulateStoresSpec)) emulateStoresCard

/-- THE SECOND FORM's CARD OF 'palisadelaw19.EmulateDecodes'. -/
def emulateDecodesUptoCard : Claim7 := { stood := { row := emulateDecodesUptoRow, standIns := [], harness := (true, "5dae829c254baee3fd762213b341cc5d34c72d5278e88dd61a02691aa9dedd7e"), looks := false }, kinds := [], alts := [], laidByText := true, laidKinds := [.data], laidTests := true, laidLooks := .later }
def EmulateDecodesUptoCardSaid : Prop := Claim7.holds Tryd.pinned (.plain (OpenSpec.upto emulateDecodesSpec)) emulateDecodesUptoCard

/-- THE SECOND FORM's CARD OF 'palisadelaw19.EmulateStores'. -/
def emulateStoresUptoCard : Claim7 := { stood := { row := emulateStoresUptoRow, standIns := [], harness := (true, "5dae829c254baee3fd762213b341cc5d34c72d5278e88dd61a02691aa9dedd7e"), looks := false }, kinds := [], alts := [], laidByText := true, laidKinds := [.data], laidTests := true, laidLooks := .later }
def EmulateStoresUptoCardSaid : Prop := Claim7.holds Tryd.pinned (.plain (OpenSpec.upto emulateStoresSpec)) emulateStoresUptoCard
end Rows
end Go.Proofs.YtjbgamifkgeodaaDoor
