/-
  No cell of these rows narrows 'for every input' (looked for: loops, veiled, ifaces, maps, wideKeys, modest, calm, conditions, laid).
  DERIVED. THE GIVEN ROWS OF THIS SEAT. 4 by the template 'for every input the law returns true; each argument reads behind the call as it read before'; 0 by the template 'total and deterministic' (their statements: YtoehigcojgeioaaTotals.lean).
  GIVEN WITH THE SEED: the statements are not yours to turn. If you find one false, say at which input.
  Laid BY PROGRAM, IN A SANDBOX (cutbox-rows.mjs): the forced cells as the released guide's own fill.sh prints them over the translation 8c22c8d40fd3099f… (all of the seat's roots in one cut). By AI agents, Wed Nov 11 2026. No macro, syntax, notation, axiom, sorry.
-/
import Derived.Test.YtoehigcojgeioaaChecked
import GoSem.Claim
import GoSem.ClaimJoined
import GoSem.ClaimMapViews
import Derived.JoinedTies
import Derived.KernelRfl
namespace Go.Proofs.Ytoehigcojgeioaa
/- THE CELL 'sum', in the pinned program and in every row, IS THE sha256 OF THE DUMP (.gsa) THAT YtoehigcojgeioaaProg.lean LOADS. Nothing in Lean hashes anything: it is a label: what it is worth is what the hold of that sum in a sandbox is worth. -/
noncomputable def Try.pinned : Pinned := { name := "ytoehigcojgeioaa", sum := "8c22c8d40fd3099f3be0a697a3321f305e576f60ee7bc14ff62d304743e9be73", checked := Try.checked }
namespace Rows
def none {H : Type} : Left H := { results := [], args := [] }

/-- 'palisadelaw08.CsrFirst': WHATEVER THE INPUT: true; the input reads as it did. -/
def csrFirstSpec : ChangeSpec := { name := "csrFirst", fn := fun _ => fun
  | [d1, d2, d3] => { results := [.lit (.bool true)], args := [d1, d2, d3] }
  | _ => none }
def csrFirstRow : OpenClaim := { program := "ytoehigcojgeioaa", sum := "8c22c8d40fd3099f3be0a697a3321f305e576f60ee7bc14ff62d304743e9be73", func := "palisade/palisadelaw08.CsrFirst", spec := "csrFirst", unfollowed := true, recurses := true, apart := false }
def CsrFirstSaid : Prop := csrFirstRow.holds Try.pinned (OpenSpec.ofChange csrFirstSpec)

/-- ITS FALSE NEIGHBOUR: 'it returns false'. Refute it at one input. -/
def csrFirstWrong : ChangeSpec := { name := "csrFirst", fn := fun _ => fun
  | [d1, d2, d3] => { results := [.lit (.bool false)], args := [d1, d2, d3] }
  | _ => none }
def CsrFirstWrongFalsely : Prop := csrFirstRow.holds Try.pinned (OpenSpec.ofChange csrFirstWrong)

/-- 'palisadelaw08.CsrMasks': WHATEVER THE INPUT: true; the input reads as it did. -/
def csrMasksSpec : ChangeSpec := { name := "csrMasks", fn := fun _ => fun
  | [d1, d2, d3] => { results := [.lit (.bool true)], args := [d1, d2, d3] }
  | _ => none }
def csrMasksRow : OpenClaim := { program := "ytoehigcojgeioaa", sum := "8c22c8d40fd3099f3be0a697a3321f305e576f60ee7bc14ff62d304743e9be73", func := "palisade/palisadelaw08.CsrMasks", spec := "csrMasks", apart := false }
def CsrMasksSaid : Prop := csrMasksRow.holds Try.pinned (OpenSpec.ofChange csrMasksSpec)

/-- ITS FALSE NEIGHBOUR: 'it returns false'. Refute it at one input. -/
def csrMasksWrong : ChangeSpec := { name := "csrMasks", fn := fun _ => fun
  | [d1, d2, d3] => { results := [.lit (.bool false)], args := [d1, d2, d3] }
  | _ => none }
def CsrMasksWrongFalsely : Prop := csrMasksRow.holds Try.pinned (OpenSpec.ofChange csrMasksWrong)

/-- 'palisadelaw08.CsrBack': WHATEVER THE INPUT: true; the input reads as it did. -/
def csrBackSpec : ChangeSpec := { name := "csrBack", fn := fun _ => fun
  | [d1, d2, d3] => { results := [.lit (.bool true)], args := [d1, d2, d3] }
  | _ => none }
def csrBackRow : OpenClaim := { program := "ytoehigcojgeioaa", sum := "8c22c8d40fd3099f3be0a697a3321f305e576f60ee7bc14ff62d304743e9be73", func := "palisade/palisadelaw08.CsrBack", spec := "csrBack", unfollowed := true, recurses := true, apart := false }
def CsrBackSaid : Prop := csrBackRow.holds Try.pinned (OpenSpec.ofChange csrBackSpec)

/-- ITS FALSE NEIGHBOUR: 'it returns false'. Refute it at one input. -/
def csrBackWrong : ChangeSpec := { name := "csrBack", fn := fun _ => fun
  | [d1, d2, d3] => { results := [.lit (.bool false)], args := [d1, d2, d3] }
  | _ => none }
def CsrBackWrongFalsely : Prop := csrBackRow.holds Try.pinned (OpenSpec.ofChange csrBackWrong)

/-- 'palisadelaw08.CsrNobody': WHATEVER THE INPUT: true; the input reads as it did. -/
def csrNobodySpec : ChangeSpec := { name := "csrNobody", fn := fun _ => fun
  | [d] => { results := [.lit (.bool true)], args := [d] }
  | _ => none }
def csrNobodyRow : OpenClaim := { program := "ytoehigcojgeioaa", sum := "8c22c8d40fd3099f3be0a697a3321f305e576f60ee7bc14ff62d304743e9be73", func := "palisade/palisadelaw08.CsrNobody", spec := "csrNobody", unfollowed := true, recurses := true, apart := false }
def CsrNobodySaid : Prop := csrNobodyRow.holds Try.pinned (OpenSpec.ofChange csrNobodySpec)

/-- ITS FALSE NEIGHBOUR: 'it returns false'. Refute it at one input. -/
def csrNobodyWrong : ChangeSpec := { name := "csrNobody", fn := fun _ => fun
  | [d] => { results := [.lit (.bool false)], args := [d] }
  | _ => none }
def CsrNobodyWrongFalsely : Prop := csrNobodyRow.holds Try.pinned (OpenSpec.ofChange csrNobodyWrong)

/- THE SECOND FORM. 'bulk': how many values and letters a reading holds, each counted each time it is reached (what is shared counts as often as it is met; a slice's spare places count too). A statement '..UptoSaid' is the law's where the arguments, and the package variables that the reading takes, are together of bulk at most 1048576: NARROWER than '..Said'. Prove '..Said' where nothing that the law and all that it calls make is longer than what came in: it says more and counts as full. Else prove '..UptoSaid'. A law counts once. -/
mutual
def uptoBulk {H : Type} : DataW H → Nat
  | .lit (.string bytes) => bytes.length + 1
  | .lit _ => 1
  | .nil => 1
  | .ptr d => uptoBulk d + 1
  | .slice elems spare => uptoBulkAll elems + uptoBulkAll spare + 1
  | .agg parts => uptoBulkAll parts + 1
  | .iface _ d => uptoBulk d + 1
  | .map entries => uptoBulkEntries entries + 1
  | .held _ => 1
def uptoBulkAll {H : Type} : List (DataW H) → Nat
  | [] => 0
  | d :: r => uptoBulk d + uptoBulkAll r
def uptoBulkEntries {H : Type} : List (Lit × DataW H) → Nat
  | [] => 0
  | x :: r => uptoBulkEntry x + uptoBulkEntries r
def uptoBulkEntry {H : Type} : Lit × DataW H → Nat
  | (.string bytes, d) => bytes.length + uptoBulk d + 1
  | (_, d) => uptoBulk d + 1
 end
def uptoSmall : (H : Type) → List (DataW H) → Bool := fun _ ds => decide (uptoBulkAll ds ≤ 1048576)
def OpenSpec.upto (s : _root_.Go.ChangeSpec) : _root_.Go.OpenSpec := { _root_.Go.OpenSpec.ofChange s with cond := some uptoSmall }

/-- 'palisadelaw08.CsrFirst', WHERE WHAT IT READS IS OF BULK AT MOST 1048576: true; the input reads as it did. -/
def csrFirstUptoRow : OpenClaim := { program := "ytoehigcojgeioaa", sum := "8c22c8d40fd3099f3be0a697a3321f305e576f60ee7bc14ff62d304743e9be73", func := "palisade/palisadelaw08.CsrFirst", spec := "csrFirst", unfollowed := true, recurses := true, apart := false, narrowed := true }
def CsrFirstUptoSaid : Prop := csrFirstUptoRow.holds Try.pinned (OpenSpec.upto csrFirstSpec)

/-- 'palisadelaw08.CsrMasks', WHERE WHAT IT READS IS OF BULK AT MOST 1048576: true; the input reads as it did. -/
def csrMasksUptoRow : OpenClaim := { program := "ytoehigcojgeioaa", sum := "8c22c8d40fd3099f3be0a697a3321f305e576f60ee7bc14ff62d304743e9be73", func := "palisade/palisadelaw08.CsrMasks", spec := "csrMasks", apart := false, narrowed := true }
def CsrMasksUptoSaid : Prop := csrMasksUptoRow.holds Try.pinned (OpenSpec.upto csrMasksSpec)

/-- 'palisadelaw08.CsrBack', WHERE WHAT IT READS IS OF BULK AT MOST 1048576: true; the input reads as it did. -/
def csrBackUptoRow : OpenClaim := { program := "ytoehigcojgeioaa", sum := "8c22c8d40fd3099f3be0a697a3321f305e576f60ee7bc14ff62d304743e9be73", func := "palisade/palisadelaw08.CsrBack", spec := "csrBack", unfollowed := true, recurses := true, apart := false, narrowed := true }
def CsrBackUptoSaid : Prop := csrBackUptoRow.holds Try.pinned (OpenSpec.upto csrBackSpec)

/-- 'palisadelaw08.CsrNobody', WHERE WHAT IT READS IS OF BULK AT MOST 1048576: true; the input reads as it did. -/
def csrNobodyUptoRow : OpenClaim := { program := "ytoehigcojgeioaa", sum := "8c22c8d40fd3099f3be0a697a3321f305e576f60ee7bc14ff62d304743e9be73", func := "palisade/palisadelaw08.CsrNobody", spec := "csrNobody", unfollowed := true, recurses := true, apart := false, narrowed := true }
def CsrNobodyUptoSaid : Prop := csrNobodyUptoRow.holds Try.pinned (OpenSpec.upto csrNobodySpec)

end Rows
end Go.Proofs.Ytoehigcojgeioaa
