/-
  No cell of these rows narrows 'for every input' (looked for: loops, veiled, ifaces, maps, wideKeys, modest, calm, conditions, laid).
  DERIVED. THE GIVEN ROWS OF THIS SEAT. 5 by the template 'for every input the law returns true; each argument reads behind the call as it read before'; 0 by the template 'total and deterministic' (their statements: YtilefidnjjbboaaTotals.lean).
  GIVEN WITH THE SEED: the statements are not yours to turn. If you find one false, say at which input.
  Laid BY PROGRAM, IN A SANDBOX (cutbox-rows.mjs): the forced cells as the released guide's own fill.sh prints them over the translation 11527ebc43b9fb0d… (all of the seat's roots in one cut). By AI agents, Wed Nov 11 2026. No macro, syntax, notation, axiom, sorry.
-/
import Derived.Test.YtilefidnjjbboaaChecked
import GoSem.Claim
import GoSem.ClaimJoined
import GoSem.ClaimMapViews
import Derived.JoinedTies
import Derived.KernelRfl
namespace Go.Proofs.Ytilefidnjjbboaa
/- THE CELL 'sum', in the pinned program and in every row, IS THE sha256 OF THE DUMP (.gsa) THAT YtilefidnjjbboaaProg.lean LOADS. Nothing in Lean hashes anything: it is a label: what it is worth is what the hold of that sum in a sandbox is worth. -/
noncomputable def Try.pinned : Pinned := { name := "ytilefidnjjbboaa", sum := "11527ebc43b9fb0d4390a14cdf3f512652f955acec922d6f38deb370f62221bb", checked := Try.checked }
namespace Rows
def none {H : Type} : Left H := { results := [], args := [] }

/-- 'palisadelaw18.VcpuForeign': WHATEVER THE INPUT: true; the input reads as it did. -/
def vcpuForeignSpec : ChangeSpec := { name := "vcpuForeign", fn := fun _ => fun
  | [d] => { results := [.lit (.bool true)], args := [d] }
  | _ => none }
def vcpuForeignRow : OpenClaim := { program := "ytilefidnjjbboaa", sum := "11527ebc43b9fb0d4390a14cdf3f512652f955acec922d6f38deb370f62221bb", func := "palisade/palisadelaw18.VcpuForeign", spec := "vcpuForeign", plainKeys := false, apart := false }
def VcpuForeignSaid : Prop := vcpuForeignRow.holds Try.pinned (OpenSpec.ofChange vcpuForeignSpec)

/-- ITS FALSE NEIGHBOUR: 'it returns false'. Refute it at one input. -/
def vcpuForeignWrong : ChangeSpec := { name := "vcpuForeign", fn := fun _ => fun
  | [d] => { results := [.lit (.bool false)], args := [d] }
  | _ => none }
def VcpuForeignWrongFalsely : Prop := vcpuForeignRow.holds Try.pinned (OpenSpec.ofChange vcpuForeignWrong)

/-- 'palisadelaw18.VcpuPlays': WHATEVER THE INPUT: true; the input reads as it did. -/
def vcpuPlaysSpec : ChangeSpec := { name := "vcpuPlays", fn := fun _ => fun
  | [d1, d2, d3] => { results := [.lit (.bool true)], args := [d1, d2, d3] }
  | _ => none }
def vcpuPlaysRow : OpenClaim := { program := "ytilefidnjjbboaa", sum := "11527ebc43b9fb0d4390a14cdf3f512652f955acec922d6f38deb370f62221bb", func := "palisade/palisadelaw18.VcpuPlays", spec := "vcpuPlays", plainKeys := false, apart := false }
def VcpuPlaysSaid : Prop := vcpuPlaysRow.holds Try.pinned (OpenSpec.ofChange vcpuPlaysSpec)

/-- ITS FALSE NEIGHBOUR: 'it returns false'. Refute it at one input. -/
def vcpuPlaysWrong : ChangeSpec := { name := "vcpuPlays", fn := fun _ => fun
  | [d1, d2, d3] => { results := [.lit (.bool false)], args := [d1, d2, d3] }
  | _ => none }
def VcpuPlaysWrongFalsely : Prop := vcpuPlaysRow.holds Try.pinned (OpenSpec.ofChange vcpuPlaysWrong)

/-- 'palisadelaw18.VcpuImages': WHATEVER THE INPUT: true; the input reads as it did. -/
def vcpuImagesSpec : ChangeSpec := { name := "vcpuImages", fn := fun _ => fun
  | [d1, d2] => { results := [.lit (.bool true)], args := [d1, d2] }
  | _ => none }
def vcpuImagesRow : OpenClaim := { program := "ytilefidnjjbboaa", sum := "11527ebc43b9fb0d4390a14cdf3f512652f955acec922d6f38deb370f62221bb", func := "palisade/palisadelaw18.VcpuImages", spec := "vcpuImages", plainKeys := false, apart := false }
def VcpuImagesSaid : Prop := vcpuImagesRow.holds Try.pinned (OpenSpec.ofChange vcpuImagesSpec)

/-- ITS FALSE NEIGHBOUR: 'it returns false'. Refute it at one input. -/
def vcpuImagesWrong : ChangeSpec := { name := "vcpuImages", fn := fun _ => fun
  | [d1, d2] => { results := [.lit (.bool false)], args := [d1, d2] }
  | _ => none }
def VcpuImagesWrongFalsely : Prop := vcpuImagesRow.holds Try.pinned (OpenSpec.ofChange vcpuImagesWrong)

/-- 'palisadelaw18.VcpuStops': WHATEVER THE INPUT: true; the input reads as it did. -/
def vcpuStopsSpec : ChangeSpec := { name := "vcpuStops", fn := fun _ => fun
  | [d1, d2] => { results := [.lit (.bool true)], args := [d1, d2] }
  | _ => none }
def vcpuStopsRow : OpenClaim := { program := "ytilefidnjjbboaa", sum := "11527ebc43b9fb0d4390a14cdf3f512652f955acec922d6f38deb370f62221bb", func := "palisade/palisadelaw18.VcpuStops", spec := "vcpuStops", plainKeys := false, apart := false }
def VcpuStopsSaid : Prop := vcpuStopsRow.holds Try.pinned (OpenSpec.ofChange vcpuStopsSpec)

/-- ITS FALSE NEIGHBOUR: 'it returns false'. Refute it at one input. -/
def vcpuStopsWrong : ChangeSpec := { name := "vcpuStops", fn := fun _ => fun
  | [d1, d2] => { results := [.lit (.bool false)], args := [d1, d2] }
  | _ => none }
def VcpuStopsWrongFalsely : Prop := vcpuStopsRow.holds Try.pinned (OpenSpec.ofChange vcpuStopsWrong)

/-- 'palisadelaw18.VcpuNobody': WHATEVER THE INPUT: true; the input reads as it did. -/
def vcpuNobodySpec : ChangeSpec := { name := "vcpuNobody", fn := fun _ => fun
  | [d] => { results := [.lit (.bool true)], args := [d] }
  | _ => none }
def vcpuNobodyRow : OpenClaim := { program := "ytilefidnjjbboaa", sum := "11527ebc43b9fb0d4390a14cdf3f512652f955acec922d6f38deb370f62221bb", func := "palisade/palisadelaw18.VcpuNobody", spec := "vcpuNobody", plainKeys := false, apart := false }
def VcpuNobodySaid : Prop := vcpuNobodyRow.holds Try.pinned (OpenSpec.ofChange vcpuNobodySpec)

/-- ITS FALSE NEIGHBOUR: 'it returns false'. Refute it at one input. -/
def vcpuNobodyWrong : ChangeSpec := { name := "vcpuNobody", fn := fun _ => fun
  | [d] => { results := [.lit (.bool false)], args := [d] }
  | _ => none }
def VcpuNobodyWrongFalsely : Prop := vcpuNobodyRow.holds Try.pinned (OpenSpec.ofChange vcpuNobodyWrong)

/- THE SECOND FORM. 'bulk': how many values and letters a reading holds, each counted each time it is reached (what is shared counts as often as it is met; a slice's spare places count too). A statement '..UptoSaid' is the law's where the arguments, and the package variables that the reading takes, are together of bulk at most 1048576: NARROWER than '..Said'. Prove '..Said' where nothing that the law and all that it calls make is longer than what came in: it says more and counts as full. Else prove '..UptoSaid'. A law counts once. -/
mutual
def uptoBulk {H : Type} : DataW H → Nat
  | .lit (.string bytes) => bytes.length + 1
  | .lit _ => 1
  | .nil => 1
  | .ptr d => uptoBulk d + 1
  | .slice elems spare => uptoBulkAll elems + uptoBulkAll spare + 1
  | .agg parts => uptoBulkAll parts + 1
  | .iface _ d => uptoBulk d + 1
  | .map entries => uptoBulkEntries entries + 1
  | .held _ => 1
def uptoBulkAll {H : Type} : List (DataW H) → Nat
  | [] => 0
  | d :: r => uptoBulk d + uptoBulkAll r
def uptoBulkEntries {H : Type} : List (Lit × DataW H) → Nat
  | [] => 0
  | x :: r => uptoBulkEntry x + uptoBulkEntries r
def uptoBulkEntry {H : Type} : Lit × DataW H → Nat
  | (.string bytes, d) => bytes.length + uptoBulk d + 1
  | (_, d) => uptoBulk d + 1
 end
def uptoSmall : (H : Type) → List (DataW H) → Bool := fun _ ds => decide (uptoBulkAll ds ≤ 1048576)
def OpenSpec.upto (s : _root_.Go.ChangeSpec) : _root_.Go.OpenSpec := { _root_.Go.OpenSpec.ofChange s with cond := some uptoSmall }

/-- 'palisadelaw18.VcpuForeign', WHERE WHAT IT READS IS OF BULK AT MOST 1048576: true; the input reads as it did. -/
def vcpuForeignUptoRow : OpenClaim := { program := "ytilefidnjjbboaa", sum := "11527ebc43b9fb0d4390a14cdf3f512652f955acec922d6f38deb370f62221bb", func := "palisade/palisadelaw18.VcpuForeign", spec := "vcpuForeign", plainKeys := false, apart := false, narrowed := true }
def VcpuForeignUptoSaid : Prop := vcpuForeignUptoRow.holds Try.pinned (OpenSpec.upto vcpuForeignSpec)

/-- 'palisadelaw18.VcpuPlays', WHERE WHAT IT READS IS OF BULK AT MOST 1048576: true; the input reads as it did. -/
def vcpuPlaysUptoRow : OpenClaim := { program := "ytilefidnjjbboaa", sum := "11527ebc43b9fb0d4390a14cdf3f512652f955acec922d6f38deb370f62221bb", func := "palisade/palisadelaw18.VcpuPlays", spec := "vcpuPlays", plainKeys := false, apart := false, narrowed := true }
def VcpuPlaysUptoSaid : Prop := vcpuPlaysUptoRow.holds Try.pinned (OpenSpec.upto vcpuPlaysSpec)

/-- 'palisadelaw18.VcpuImages', WHERE WHAT IT READS IS OF BULK AT MOST 1048576: true; the input reads as it did. -/
def vcpuImagesUptoRow : OpenClaim := { program := "ytilefidnjjbboaa", sum := "11527ebc43b9fb0d4390a14cdf3f512652f955acec922d6f38deb370f62221bb", func := "palisade/palisadelaw18.VcpuImages", spec := "vcpuImages", plainKeys := false, apart := false, narrowed := true }
def VcpuImagesUptoSaid : Prop := vcpuImagesUptoRow.holds Try.pinned (OpenSpec.upto vcpuImagesSpec)

/-- 'palisadelaw18.VcpuStops', WHERE WHAT IT READS IS OF BULK AT MOST 1048576: true; the input reads as it did. -/
def vcpuStopsUptoRow : OpenClaim := { program := "ytilefidnjjbboaa", sum := "11527ebc43b9fb0d4390a14cdf3f512652f955acec922d6f38deb370f62221bb", func := "palisade/palisadelaw18.VcpuStops", spec := "vcpuStops", plainKeys := false, apart := false, narrowed := true }
def VcpuStopsUptoSaid : Prop := vcpuStopsUptoRow.holds Try.pinned (OpenSpec.upto vcpuStopsSpec)

/-- 'palisadelaw18.VcpuNobody', WHERE WHAT IT READS IS OF BULK AT MOST 1048576: true; the input reads as it did. -/
def vcpuNobodyUptoRow : OpenClaim := { program := "ytilefidnjjbboaa", sum := "11527ebc43b9fb0d4390a14cdf3f512652f955acec922d6f38deb370f62221bb", func := "palisade/palisadelaw18.VcpuNobody", spec := "vcpuNobody", plainKeys := false, apart := false, narrowed := true }
def VcpuNobodyUptoSaid : Prop := vcpuNobodyUptoRow.holds Try.pinned (OpenSpec.upto vcpuNobodySpec)

end Rows
end Go.Proofs.Ytilefidnjjbboaa
