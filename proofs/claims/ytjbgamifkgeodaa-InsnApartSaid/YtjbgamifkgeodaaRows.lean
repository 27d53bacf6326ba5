/-
  No cell of these rows narrows 'for every input' (looked for: loops, veiled, ifaces, maps, wideKeys, modest, calm, conditions, laid).
  DERIVED. THE GIVEN ROWS OF THIS SEAT. 6 by the template 'for every input the law returns true; each argument reads behind the call as it read before'; 0 by the template 'total and deterministic' (their statements: YtjbgamifkgeodaaTotals.lean).
  GIVEN WITH THE SEED: the statements are not yours to turn. If you find one false, say at which input.
  Laid BY PROGRAM, IN A SANDBOX (cutbox-rows.mjs): the forced cells as the released guide's own fill.sh prints them over the translation 7a1131f21c6c4bdb… (all of the seat's roots in one cut). By AI agents, Wed Nov 11 2026. No macro, syntax, notation, axiom, sorry.
-/
import Derived.Test.YtjbgamifkgeodaaChecked
import GoSem.Claim
import GoSem.ClaimJoined
import GoSem.ClaimMapViews
import Derived.JoinedTies
import Derived.KernelRfl
namespace Go.Proofs.Ytjbgamifkgeodaa
/- THE CELL 'sum', in the pinned program and in every row, IS THE sha256 OF THE DUMP (.gsa) THAT YtjbgamifkgeodaaProg.lean LOADS. Nothing in Lean hashes anything: it is a label: what it is worth is what the hold of that sum in a sandbox is worth. -/
noncomputable def Try.pinned : Pinned := { name := "ytjbgamifkgeodaa", sum := "7a1131f21c6c4bdb4e10df95a2890a41b1d7ce7238d6afa2099667e0b1c2a787", checked := Try.checked }
namespace Rows
def none {H : Type} : Left H := { results := [], args := [] }

/-- 'palisadelaw19.EmulateFaults': WHATEVER THE INPUT: true; the input reads as it did. -/
def emulateFaultsSpec : ChangeSpec := { name := "emulateFaults", fn := fun _ => fun
  | [d1, d2, d3] => { results := [.lit (.bool true)], args := [d1, d2, d3] }
  | _ => none }
def emulateFaultsRow : OpenClaim := { program := "ytjbgamifkgeodaa", sum := "7a1131f21c6c4bdb4e10df95a2890a41b1d7ce7238d6afa2099667e0b1c2a787", func := "palisade/palisadelaw19.EmulateFaults", spec := "emulateFaults", apart := false }
def EmulateFaultsSaid : Prop := emulateFaultsRow.holds Try.pinned (OpenSpec.ofChange emulateFaultsSpec)

/-- ITS FALSE NEIGHBOUR: 'it returns false'. Refute it at one input. -/
def emulateFaultsWrong : ChangeSpec := { name := "emulateFaults", fn := fun _ => fun
  | [d1, d2, d3] => { results := [.lit (.bool false)], args := [d1, d2, d3] }
  | _ => none }
def EmulateFaultsWrongFalsely : Prop := emulateFaultsRow.holds Try.pinned (OpenSpec.ofChange emulateFaultsWrong)

/-- 'palisadelaw19.EmulateCalls': WHATEVER THE INPUT: true; the input reads as it did. -/
def emulateCallsSpec : ChangeSpec := { name := "emulateCalls", fn := fun _ => fun
  | [d1, d2, d3] => { results := [.lit (.bool true)], args := [d1, d2, d3] }
  | _ => none }
def emulateCallsRow : OpenClaim := { program := "ytjbgamifkgeodaa", sum := "7a1131f21c6c4bdb4e10df95a2890a41b1d7ce7238d6afa2099667e0b1c2a787", func := "palisade/palisadelaw19.EmulateCalls", spec := "emulateCalls", apart := false }
def EmulateCallsSaid : Prop := emulateCallsRow.holds Try.pinned (OpenSpec.ofChange emulateCallsSpec)

/-- ITS FALSE NEIGHBOUR: 'it returns false'. Refute it at one input. -/
def emulateCallsWrong : ChangeSpec := { name := "emulateCalls", fn := fun _ => fun
  | [d1, d2, d3] => { results := [.lit (.bool false)], args := [d1, d2, d3] }
  | _ => none }
def EmulateCallsWrongFalsely : Prop := emulateCallsRow.holds Try.pinned (OpenSpec.ofChange emulateCallsWrong)

/-- 'palisadelaw02.InsnEncodes': WHATEVER THE INPUT: true; the input reads as it did. -/
def insnEncodesSpec : ChangeSpec := { name := "insnEncodes", fn := fun _ => fun
  | [d] => { results := [.lit (.bool true)], args := [d] }
  | _ => none }
def insnEncodesRow : OpenClaim := { program := "ytjbgamifkgeodaa", sum := "7a1131f21c6c4bdb4e10df95a2890a41b1d7ce7238d6afa2099667e0b1c2a787", func := "palisade/palisadelaw02.InsnEncodes", spec := "insnEncodes", apart := false }
def InsnEncodesSaid : Prop := insnEncodesRow.holds Try.pinned (OpenSpec.ofChange insnEncodesSpec)

/-- ITS FALSE NEIGHBOUR: 'it returns false'. Refute it at one input. -/
def insnEncodesWrong : ChangeSpec := { name := "insnEncodes", fn := fun _ => fun
  | [d] => { results := [.lit (.bool false)], args := [d] }
  | _ => none }
def InsnEncodesWrongFalsely : Prop := insnEncodesRow.holds Try.pinned (OpenSpec.ofChange insnEncodesWrong)

/-- 'palisadelaw02.InsnApart': WHATEVER THE INPUT: true; the input reads as it did. -/
def insnApartSpec : ChangeSpec := { name := "insnApart", fn := fun _ => fun
  | [d1, d2] => { results := [.lit (.bool true)], args := [d1, d2] }
  | _ => none }
def insnApartRow : OpenClaim := { program := "ytjbgamifkgeodaa", sum := "7a1131f21c6c4bdb4e10df95a2890a41b1d7ce7238d6afa2099667e0b1c2a787", func := "palisade/palisadelaw02.InsnApart", spec := "insnApart", apart := false }
def InsnApartSaid : Prop := insnApartRow.holds Try.pinned (OpenSpec.ofChange insnApartSpec)

/-- ITS FALSE NEIGHBOUR: 'it returns false'. Refute it at one input. -/
def insnApartWrong : ChangeSpec := { name := "insnApart", fn := fun _ => fun
  | [d1, d2] => { results := [.lit (.bool false)], args := [d1, d2] }
  | _ => none }
def InsnApartWrongFalsely : Prop := insnApartRow.holds Try.pinned (OpenSpec.ofChange insnApartWrong)

/-- 'palisadelaw02.InsnDecodes': WHATEVER THE INPUT: true; the input reads as it did. -/
def insnDecodesSpec : ChangeSpec := { name := "insnDecodes", fn := fun _ => fun
  | [d] => { results := [.lit (.bool true)], args := [d] }
  | _ => none }
def insnDecodesRow : OpenClaim := { program := "ytjbgamifkgeodaa", sum := "7a1131f21c6c4bdb4e10df95a2890a41b1d7ce7238d6afa2099667e0b1c2a787", func := "palisade/palisadelaw02.InsnDecodes", spec := "insnDecodes", apart := false }
def InsnDecodesSaid : Prop := insnDecodesRow.holds Try.pinned (OpenSpec.ofChange insnDecodesSpec)

/-- ITS FALSE NEIGHBOUR: 'it returns false'. Refute it at one input. -/
def insnDecodesWrong : ChangeSpec := { name := "insnDecodes", fn := fun _ => fun
  | [d] => { results := [.lit (.bool false)], args := [d] }
  | _ => none }
def InsnDecodesWrongFalsely : Prop := insnDecodesRow.holds Try.pinned (OpenSpec.ofChange insnDecodesWrong)

/-- 'palisadelaw02.InsnBack': WHATEVER THE INPUT: true; the input reads as it did. -/
def insnBackSpec : ChangeSpec := { name := "insnBack", fn := fun _ => fun
  | [d1, d2] => { results := [.lit (.bool true)], args := [d1, d2] }
  | _ => none }
def insnBackRow : OpenClaim := { program := "ytjbgamifkgeodaa", sum := "7a1131f21c6c4bdb4e10df95a2890a41b1d7ce7238d6afa2099667e0b1c2a787", func := "palisade/palisadelaw02.InsnBack", spec := "insnBack", apart := false }
def InsnBackSaid : Prop := insnBackRow.holds Try.pinned (OpenSpec.ofChange insnBackSpec)

/-- ITS FALSE NEIGHBOUR: 'it returns false'. Refute it at one input. -/
def insnBackWrong : ChangeSpec := { name := "insnBack", fn := fun _ => fun
  | [d1, d2] => { results := [.lit (.bool false)], args := [d1, d2] }
  | _ => none }
def InsnBackWrongFalsely : Prop := insnBackRow.holds Try.pinned (OpenSpec.ofChange insnBackWrong)

/- THE SECOND FORM. 'bulk': how many values and letters a reading holds, each counted each time it is reached (what is shared counts as often as it is met; a slice's spare places count too). A statement '..UptoSaid' is the law's where the arguments, and the package variables that the reading takes, are together of bulk at most 1048576: NARROWER than '..Said'. Prove '..Said' where nothing that the law and all that it calls make is longer than what came in: it says more and counts as full. Else prove '..UptoSaid'. A law counts once. -/
mutual
def uptoBulk {H : Type} : DataW H → Nat
  | .lit (.string bytes) => bytes.length + 1
  | .lit _ => 1
  | .nil => 1
  | .ptr d => uptoBulk d + 1
  | .slice elems spare => uptoBulkAll elems + uptoBulkAll spare + 1
  | .agg parts => uptoBulkAll parts + 1
  | .iface _ d => uptoBulk d + 1
  | .map entries => uptoBulkEntries entries + 1
  | .held _ => 1
def uptoBulkAll {H : Type} : List (DataW H) → Nat
  | [] => 0
  | d :: r => uptoBulk d + uptoBulkAll r
def uptoBulkEntries {H : Type} : List (Lit × DataW H) → Nat
  | [] => 0
  | x :: r => uptoBulkEntry x + uptoBulkEntries r
def uptoBulkEntry {H : Type} : Lit × DataW H → Nat
  | (.string bytes, d) => bytes.length + uptoBulk d + 1
  | (_, d) => uptoBulk d + 1
 end
def uptoSmall : (H : Type) → List (DataW H) → Bool := fun _ ds => decide (uptoBulkAll ds ≤ 1048576)
def OpenSpec.upto (s : _root_.Go.ChangeSpec) : _root_.Go.OpenSpec := { _root_.Go.OpenSpec.ofChange s with cond := some uptoSmall }

/-- 'palisadelaw19.EmulateFaults', WHERE WHAT IT READS IS OF BULK AT MOST 1048576: true; the input reads as it did. -/
def emulateFaultsUptoRow : OpenClaim := { program := "ytjbgamifkgeodaa", sum := "7a1131f21c6c4bdb4e10df95a2890a41b1d7ce7238d6afa2099667e0b1c2a787", func := "palisade/palisadelaw19.EmulateFaults", spec := "emulateFaults", apart := false, narrowed := true }
def EmulateFaultsUptoSaid : Prop := emulateFaultsUptoRow.holds Try.pinned (OpenSpec.upto emulateFaultsSpec)

/-- 'palisadelaw19.EmulateCalls', WHERE WHAT IT READS IS OF BULK AT MOST 1048576: true; the input reads as it did. -/
def emulateCallsUptoRow : OpenClaim := { program := "ytjbgamifkgeodaa", sum := "7a1131f21c6c4bdb4e10df95a2890a41b1d7ce7238d6afa2099667e0b1c2a787", func := "palisade/palisadelaw19.EmulateCalls", spec := "emulateCalls", apart := false, narrowed := true }
def EmulateCallsUptoSaid : Prop := emulateCallsUptoRow.holds Try.pinned (OpenSpec.upto emulateCallsSpec)

/-- 'palisadelaw02.InsnEncodes', WHERE WHAT IT READS IS OF BULK AT MOST 1048576: true; the input reads as it did. -/
def insnEncodesUptoRow : OpenClaim := { program := "ytjbgamifkgeodaa", sum := "7a1131f21c6c4bdb4e10df95a2890a41b1d7ce7238d6afa2099667e0b1c2a787", func := "palisade/palisadelaw02.InsnEncodes", spec := "insnEncodes", apart := false, narrowed := true }
def InsnEncodesUptoSaid : Prop := insnEncodesUptoRow.holds Try.pinned (OpenSpec.upto insnEncodesSpec)

/-- 'palisadelaw02.InsnApart', WHERE WHAT IT READS IS OF BULK AT MOST 1048576: true; the input reads as it did. -/
def insnApartUptoRow : OpenClaim := { program := "ytjbgamifkgeodaa", sum := "7a1131f21c6c4bdb4e10df95a2890a41b1d7ce7238d6afa2099667e0b1c2a787", func := "palisade/palisadelaw02.InsnApart", spec := "insnApart", apart := false, narrowed := true }
def InsnApartUptoSaid : Prop := insnApartUptoRow.holds Try.pinned (OpenSpec.upto insnApartSpec)

/-- 'palisadelaw02.InsnDecodes', WHERE WHAT IT READS IS OF BULK AT MOST 1048576: true; the input reads as it did. -/
def insnDecodesUptoRow : OpenClaim := { program := "ytjbgamifkgeodaa", sum := "7a1131f21c6c4bdb4e10df95a2890a41b1d7ce7238d6afa2099667e0b1c2a787", func := "palisade/palisadelaw02.InsnDecodes", spec := "insnDecodes", apart := false, narrowed := true }
def InsnDecodesUptoSaid : Prop := insnDecodesUptoRow.holds Try.pinned (OpenSpec.upto insnDecodesSpec)

/-- 'palisadelaw02.InsnBack', WHERE WHAT IT READS IS OF BULK AT MOST 1048576: true; the input reads as it did. -/
def insnBackUptoRow : OpenClaim := { program := "ytjbgamifkgeodaa", sum := "7a1131f21c6c4bdb4e10df95a2890a41b1d7ce7238d6afa2099667e0b1c2a787", func := "palisade/palisadelaw02.InsnBack", spec := "insnBack", apart := false, narrowed := true }
def InsnBackUptoSaid : Prop := insnBackUptoRow.holds Try.pinned (OpenSpec.upto insnBackSpec)

end Rows
end Go.Proofs.Ytjbgamifkgeodaa
