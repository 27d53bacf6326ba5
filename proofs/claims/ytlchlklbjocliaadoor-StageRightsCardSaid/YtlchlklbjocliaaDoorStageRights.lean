/- StageRights: what the rights of a page are is what is told and walked, through any changes; its frame stays. For every page and all rights. The card ties the tables to the text of the program. -/
import Derived.Test.YtlchlklbjocliaaDoorStageRightsW
import Derived.Test.YtlchlklbjocliaaDoorMA
import Derived.Test.YtlchlklbjocliaaDoorCards
import Derived.Test.YtlchlklbjocliaaDoorTie
import Derived.Deep.DeepHandedRow
import Derived.Lib.LaidTab
import Derived.Test.YtlchlklbjocliaaDoorLaid
import Derived.Test.YtlchlklbjocliaaDoorMB
namespace Go.Proofs.YtlchlklbjocliaaDoor
open Go Go.RowKit
set_option linter.unusedSimpArgs false
set_option linter.unusedVariables false
set_option maxRecDepth 100000
namespace stageRights
open Go.ChangeShapes Go.WideShapes Go.ChangeAt Go.RowKit
theorem own : ownKnob Tryd.prog.godebug = none := by kernel_rfl
theorem table0 {W : World} (h : laidMetH Tryd.prog Rows.stageRightsRow.laid W) : Widths W := by
  have ht : Lib.TabIs Tryd.prog W "palisade/word.widths" .i64 [1, 0, 4, 8] :=
    Lib.tabIs_of_head (g := 1) (rest := [("palisade/entry.places", Rows.laid_palisade_entry_places)]) (by kernel_rfl) (by kernel_rfl) Tryd.underlying181 Tryd.underlying3 (by kernel_rfl) (by kernel_rfl) h
  have hg : Tryd.prog.globalNamed "palisade/word.widths" = some 1 := by kernel_rfl
  have hc : ∀ i, i < 4 → W.cell? ⟨1, i, none⟩ = #[Value.int .i64 1, Value.int .i64 0, Value.int .i64 4, Value.int .i64 8][i]? := fun i hi => by
    rw [ht.cell hg i (by simpa using hi)]
    match i, hi with
    | 0, _ => rfl
    | 1, _ => rfl
    | 2, _ => rfl
    | 3, _ => rfl
  have hlt := cell_block_lt (hc 0 (by decide))
  refine ⟨hlt, fun i => ?_⟩
  rcases Nat.lt_or_ge i 4 with hi | hi
  · exact hc i hi
  · have hv : W.cell? ⟨1, i, none⟩ = none := by
      have h1 := World.var?_cell hg ht i
      rw [h1]; simp; omega
    rw [hv, Array.getElem?_eq_none (by simpa using hi)]
theorem table1 {W : World} (h : laidMetH Tryd.prog Rows.stageRightsRow.laid W) : Places W := by
  have ht : Lib.TabIs Tryd.prog W "palisade/entry.places" .i64 [0, 1, 2, 3, 4, 5, 6] :=
    Lib.tabIs_of_head (g := 0) (rest := []) (by kernel_rfl) (by kernel_rfl) Tryd.underlying169 Tryd.underlying3 (by kernel_rfl) (by kernel_rfl) (laidMet_tail (P := Tryd.prog) (x := ("palisade/word.widths", Rows.laid_palisade_word_widths)) (rest := [("palisade/entry.places", Rows.laid_palisade_entry_places)]) h)
  have hg : Tryd.prog.globalNamed "palisade/entry.places" = some 0 := by kernel_rfl
  have hc : ∀ i, i < 7 → W.cell? ⟨0, i, none⟩ = #[Value.int .i64 0, Value.int .i64 1, Value.int .i64 2, Value.int .i64 3, Value.int .i64 4, Value.int .i64 5, Value.int .i64 6][i]? := fun i hi => by
    rw [ht.cell hg i (by simpa using hi)]
    match i, hi with
    | 0, _ => rfl
    | 1, _ => rfl
    | 2, _ => rfl
    | 3, _ => rfl
    | 4, _ => rfl
    | 5, _ => rfl
    | 6, _ => rfl
  have hlt := cell_block_lt (hc 0 (by decide))
  refine ⟨hlt, fun i => ?_⟩
  rcases Nat.lt_or_ge i 7 with hi | hi
  · exact hc i hi
  · have hv : W.cell? ⟨0, i, none⟩ = none := by
      have h1 := World.var?_cell hg ht i
      rw [h1]; simp; omega
    rw [hv, Array.getElem?_eq_none (by simpa using hi)]
/-- A world for the witness: the settled one, the tables holding what their initialisers lay. -/
noncomputable def laidWorld (os : Os) : World :=
  { World.holding Tryd.prog os ⟨#[], #[], []⟩ with heap := (((World.holding Tryd.prog os ⟨#[], #[], []⟩).heap.modify 1 fun
      | .cells _ t frozen => .cells #[.int .i64 1, .int .i64 0, .int .i64 4, .int .i64 8] t frozen
      | o => o).modify 0 fun
      | .cells _ t frozen => .cells #[.int .i64 0, .int .i64 1, .int .i64 2, .int .i64 3, .int .i64 4, .int .i64 5, .int .i64 6] t frozen
      | o => o) }
theorem laid_met (os : Os) : laidMet Tryd.prog Rows.stageRightsRow.laid ((laidWorld os).forCall (fun _ _ => 0) ⟨#[], #[.int .i64 0, .slice none 0 0], []⟩).memory :=
  laidMet_of_run' 8 (by kernel_rfl) (by kernel_rfl)
theorem reads (os : Os) {H : Type} (enc : TypeId × Value → H) : ∃ places, DataW.whole enc Tryd.prog ((laidWorld os).forCall (fun _ _ => 0) ⟨#[], #[.int .i64 0, .slice none 0 0], []⟩).memory Tryd.f6.params.toList Rows.stageRightsSpec.vars false (#[.int .i64 0, .slice none 0 0] : Array Value).toList 8 = some ([.lit (.int .i64 0), .nil], [], places) :=
  ⟨[], by kernel_rfl⟩
set_option maxRecDepth 100000 in
theorem lifted (os : Os) (started : os.Started) (H : Type) (enc : TypeId × Value → H) (F : Stop.Interp) :
    ReturnsInHanded {} Tryd.checked os 6 .any ((OpenSpec.ofChange Rows.stageRightsSpec).preRow enc Tryd.prog Tryd.f6 Rows.stageRightsRow.domain false Rows.stageRightsRow.laid) (((OpenSpec.ofChange Rows.stageRightsSpec).at F).post enc Tryd.prog Tryd.f6 false true false false) := by
  obtain ⟨places, hx⟩ := reads os enc
  refine returnsInHanded_of_row (C := Tryd.checked) (s := OpenSpec.ofChange Rows.stageRightsSpec) own started (by kernel_rfl) Tryd.func6
    (witness_row_at (enc := enc) (C := Tryd.checked) false (laidWorld os) #[.int .i64 0, .slice none 0 0] rfl (by kernel_rfl) (by kernel_rfl) (by kernel_rfl)
      (OpenSpec.preRow_of_cond 8 hx (by kernel_rfl) (fun k hk => by cases hk) (by kernel_rfl) (laid_met os))) ?_
  intro W base args ds gs before hval hW _ _ hsz hL _ _
  refine law_contract (P := Tryd.prog) (s := Rows.stageRightsSpec) rfl (by kernel_rfl) (by kernel_rfl) (by kernel_rfl) Tryd.underlying4 (fun ds h => ?_) W args ds gs before hW hsz (fun ps hA hlt hz hsize => ?_)
  · match ds, h with
    | [_, _], _ => rfl
  · have hT0 := table0 hL
    have hT1 := table1 hL
    obtain ⟨l⟩ := args
    obtain ⟨v0, l0, rfl, hs0⟩ := args_cons (n := 1) (by simpa [Tryd.params6] using hsize)
    obtain ⟨v1, l1, rfl, hs1⟩ := args_cons (n := 0) hs0
    obtain rfl := List.eq_nil_of_length_eq_zero hs1
    have hv0 := hval 0 3 v0 (by rw [Tryd.params6]; rfl) rfl
    have hv1 := hval 1 77 v1 (by rw [Tryd.params6]; rfl) rfl
    clear hval hsize
    rw [Tryd.params6] at hA hz
    obtain ⟨d0, ds0, p0, q0, rfl, ht0, hA⟩ := trodAll_cons hA
    obtain ⟨d1, ds1, p1, q1, rfl, ht1, hA⟩ := trodAll_cons hA
    obtain ⟨a0, rfl, wf0⟩ := arg_int Tryd.underlying3 hv0
    obtain ⟨A1, n1, c1, X1, rfl, hnc1, hcm1, hsz1, hX1, hA1⟩ := slice_arg (ts := [3]) 8 Tryd.underlying77 (by kernel_rfl) (by kernel_rfl) (by decide) (arg_one Tryd.underlying77 hv1) ht1 (Sized.of_each hz (j := 1) rfl rfl)
    rw [show Tryd.prog.bytesOf 3 = 8 by kernel_rfl] at hsz1
    exact (stageRights_walk W a0 wf0 A1 n1 c1 X1 hnc1 hsz1 hX1 hA1 hT0 hT1).mono fun _ _ ⟨he, hg⟩ => ⟨he, hg.below⟩
theorem said : Rows.StageRightsSaid :=
  OpenClaim.holds_of_cond 6 Tryd.f6 rfl rfl rfl rfl rfl rfl rfl ⟨rfl, rfl, rfl, rfl, rfl⟩ rfl rfl rfl rfl rfl (by kernel_rfl) Tryd.func6 (by kernel_rfl)
    (of_decide_eq_true (by kernel_rfl)) (by unfold Func.isWrapper; first | (rw [if_pos (by decide +kernel)]; kernel_rfl) | (rw [if_neg (by decide +kernel)]; exact ⟨rfl, rfl⟩))
    (fun os started H enc _ F => by rw [OpenClaim.pre_eq_preRow]; exact lifted os started H enc F)
theorem plain (f : FuncId) (fn : Func) (hf : Tryd.pinned.checked.prog.funcNamed "palisade/palisadelaw17.StageRights" = some f) (hfn : Tryd.pinned.checked.prog.funcs[f]? = some fn) :
    false = Tryd.pinned.checked.prog.looks [] ∧ ∀ (j : Nat) t, fn.params[j]? = some t → Tryd.pinned.checked.prog.wantsStandIn t = false := by
  obtain rfl : f = 6 := Option.some.inj ((show Tryd.prog.funcNamed "palisade/palisadelaw17.StageRights" = some 6 by kernel_rfl).symm.trans hf) |>.symm
  obtain rfl : fn = Tryd.f6 := (Option.some.inj (Tryd.func6.symm.trans hfn)).symm
  refine ⟨by kernel_rfl, fun j t ht => ?_⟩
  have hall : (Tryd.f6.params.toList.all fun t => Tryd.prog.wantsStandIn t == false) = true := by kernel_rfl
  have := List.all_eq_true.mp hall t (by have := Array.mem_of_getElem? ht; simpa using this)
  exact eq_of_beq this
theorem card : Rows.StageRightsCardSaid :=
  Claim7.holds_tied_plain_at .later [] _ _ _ _ said (fun _ h => by cases h) (by kernel_rfl) (fun _ h => by cases h) stageRights_row_tie rfl ⟨rfl, rfl⟩ (by kernel_rfl) rfl plain (by kernel_rfl)
end stageRights
theorem stageRights_holds : Rows.StageRightsCardSaid := stageRights.card
#print axioms stageRights_holds
end Go.Proofs.YtlchlklbjocliaaDoor
