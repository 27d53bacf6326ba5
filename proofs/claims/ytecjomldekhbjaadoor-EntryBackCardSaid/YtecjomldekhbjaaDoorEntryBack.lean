/- EntryBack: an entry that is packed is unpacked again, and an address that is split is joined. For every entry and address. The card ties the table of places to the text of the program. -/
import Derived.Test.YtecjomldekhbjaaDoorEntUnpW
import Derived.Test.YtecjomldekhbjaaDoorRow
import Derived.Test.YtecjomldekhbjaaDoorCards
import Derived.Test.YtecjomldekhbjaaDoorTie
import Derived.Deep.DeepHandedRow
import Derived.Lib.LaidTab
namespace Go.Proofs.YtecjomldekhbjaaDoor
open Go Go.RowKit
set_option linter.unusedSimpArgs false
set_option linter.unusedVariables false
namespace entryBack
open Go.ChangeShapes Go.WideShapes Go.ChangeAt Go.RowKit
theorem own : ownKnob Tryd.prog.godebug = none := by kernel_rfl
theorem table0 {W : World} (h : laidMetH Tryd.prog Rows.entryBackRow.laid W) : Places W := by
  have ht : Lib.TabIs Tryd.prog W "palisade/entry.places" .i64 [0, 1, 2, 3, 4, 5, 6] :=
    Lib.tabIs_of_head (g := 0) (rest := []) (by kernel_rfl) (by kernel_rfl) Tryd.underlying62 Tryd.underlying3 (by kernel_rfl) (by kernel_rfl) h
  have hg : Tryd.prog.globalNamed "palisade/entry.places" = some 0 := by kernel_rfl
  have hc : ∀ i, i < 7 → W.cell? ⟨0, i, none⟩ = #[Value.int .i64 0, Value.int .i64 1, Value.int .i64 2, Value.int .i64 3, Value.int .i64 4, Value.int .i64 5, Value.int .i64 6][i]? := fun i hi => by
    rw [ht.cell hg i (by simpa using hi)]
    match i, hi with
    | 0, _ => rfl
    | 1, _ => rfl
    | 2, _ => rfl
    | 3, _ => rfl
    | 4, _ => rfl
    | 5, _ => rfl
    | 6, _ => rfl
  have hlt := cell_block_lt (hc 0 (by decide))
  refine ⟨hlt, fun i => ?_⟩
  rcases Nat.lt_or_ge i 7 with hi | hi
  · exact hc i hi
  · have hv : W.cell? ⟨0, i, none⟩ = none := by
      have h1 := World.var?_cell hg ht i
      rw [h1]; simp; omega
    rw [hv, Array.getElem?_eq_none (by simpa using hi)]
/-- A world for the witness: the settled one, the tables holding what their initialisers lay. -/
noncomputable def laidWorld (os : Os) : World :=
  { World.holding Tryd.prog os ⟨#[], #[], []⟩ with heap := ((World.holding Tryd.prog os ⟨#[], #[], []⟩).heap.modify 0 fun
      | .cells _ t frozen => .cells #[.int .i64 0, .int .i64 1, .int .i64 2, .int .i64 3, .int .i64 4, .int .i64 5, .int .i64 6] t frozen
      | o => o) }
theorem laid_met (os : Os) : laidMet Tryd.prog Rows.entryBackRow.laid ((laidWorld os).forCall (fun _ _ => 0) ⟨#[], #[.agg #[.bool false, .bool false, .bool false, .bool false, .bool false, .bool false, .bool false, .int .i64 0], .int .u64 0], []⟩).memory :=
  laidMet_of_run' 8 (by kernel_rfl) (by kernel_rfl)
theorem reads (os : Os) {H : Type} (enc : TypeId × Value → H) : ∃ places, DataW.whole enc Tryd.prog ((laidWorld os).forCall (fun _ _ => 0) ⟨#[], #[.agg #[.bool false, .bool false, .bool false, .bool false, .bool false, .bool false, .bool false, .int .i64 0], .int .u64 0], []⟩).memory Tryd.f6.params.toList Rows.entryBackSpec.vars false (#[.agg #[.bool false, .bool false, .bool false, .bool false, .bool false, .bool false, .bool false, .int .i64 0], .int .u64 0] : Array Value).toList 8 = some ([.agg [.lit (.bool false), .lit (.bool false), .lit (.bool false), .lit (.bool false), .lit (.bool false), .lit (.bool false), .lit (.bool false), .lit (.int .i64 0)], .lit (.int .u64 0)], [], places) :=
  ⟨[], by kernel_rfl⟩
set_option maxRecDepth 100000 in
theorem lifted (os : Os) (started : os.Started) (H : Type) (enc : TypeId × Value → H) (F : Stop.Interp) :
    ReturnsInHanded {} Tryd.checked os 6 .any ((OpenSpec.ofChange Rows.entryBackSpec).preRow enc Tryd.prog Tryd.f6 Rows.entryBackRow.domain false Rows.entryBackRow.laid) (((OpenSpec.ofChange Rows.entryBackSpec).at F).post enc Tryd.prog Tryd.f6 false true false false) := by
  obtain ⟨places, hx⟩ := reads os enc
  refine returnsInHanded_of_row (C := Tryd.checked) (s := OpenSpec.ofChange Rows.entryBackSpec) own started (by kernel_rfl) Tryd.func6
    (witness_row_at (enc := enc) (C := Tryd.checked) false (laidWorld os) #[.agg #[.bool false, .bool false, .bool false, .bool false, .bool false, .bool false, .bool false, .int .i64 0], .int .u64 0] rfl (by kernel_rfl) (by kernel_rfl) (by kernel_rfl)
      (OpenSpec.preRow_of_cond 8 hx (by kernel_rfl) (fun k hk => by cases hk) (by kernel_rfl) (laid_met os))) ?_
  intro W base args ds gs before hval hW _ _ hsz hL _ _
  refine law_contract (P := Tryd.prog) (s := Rows.entryBackSpec) rfl (by kernel_rfl) (by kernel_rfl) (by kernel_rfl) Tryd.underlying4 (fun ds h => ?_) W args ds gs before hW hsz (fun ps hA hlt hz hsize => ?_)
  · match ds, h with
    | [_, _], _ => rfl
  · have hT0 := table0 hL
    obtain ⟨l⟩ := args
    obtain ⟨v0, l0, rfl, hs0⟩ := args_cons (n := 1) (by simpa [Tryd.params6] using hsize)
    obtain ⟨v1, l1, rfl, hs1⟩ := args_cons (n := 0) hs0
    obtain rfl := List.eq_nil_of_length_eq_zero hs1
    have hv0 := hval 0 29 v0 (by rw [Tryd.params6]; rfl) rfl
    have hv1 := hval 1 23 v1 (by rw [Tryd.params6]; rfl) rfl
    clear hval hsize
    obtain ⟨cs0, rfl, hc0_0⟩ := open_flat (ts := [4, 4, 4, 4, 4, 4, 4, 3]) (by kernel_rfl) (by kernel_rfl) (by kernel_rfl) hv0
    obtain ⟨c0_0, r0_0, rfl, h0_0, hc0_1⟩ := cellsOk_cons hc0_0; obtain ⟨x0_0, rfl⟩ := cell_bool Tryd.underlying4 h0_0
    obtain ⟨c0_1, r0_1, rfl, h0_1, hc0_2⟩ := cellsOk_cons hc0_1; obtain ⟨x0_1, rfl⟩ := cell_bool Tryd.underlying4 h0_1
    obtain ⟨c0_2, r0_2, rfl, h0_2, hc0_3⟩ := cellsOk_cons hc0_2; obtain ⟨x0_2, rfl⟩ := cell_bool Tryd.underlying4 h0_2
    obtain ⟨c0_3, r0_3, rfl, h0_3, hc0_4⟩ := cellsOk_cons hc0_3; obtain ⟨x0_3, rfl⟩ := cell_bool Tryd.underlying4 h0_3
    obtain ⟨c0_4, r0_4, rfl, h0_4, hc0_5⟩ := cellsOk_cons hc0_4; obtain ⟨x0_4, rfl⟩ := cell_bool Tryd.underlying4 h0_4
    obtain ⟨c0_5, r0_5, rfl, h0_5, hc0_6⟩ := cellsOk_cons hc0_5; obtain ⟨x0_5, rfl⟩ := cell_bool Tryd.underlying4 h0_5
    obtain ⟨c0_6, r0_6, rfl, h0_6, hc0_7⟩ := cellsOk_cons hc0_6; obtain ⟨x0_6, rfl⟩ := cell_bool Tryd.underlying4 h0_6
    obtain ⟨c0_7, r0_7, rfl, h0_7, hc0_8⟩ := cellsOk_cons hc0_7; obtain ⟨x0_7, rfl, wf0_7⟩ := cell_int Tryd.underlying3 h0_7
    obtain rfl := cellsOk_nil hc0_8
    obtain ⟨a1, rfl, wf1⟩ := arg_int Tryd.underlying23 hv1
    exact (entryBack_walk x0_0 x0_1 x0_2 x0_3 x0_4 x0_5 x0_6 x0_7 wf0_7 a1 wf1 W hT0).mono fun _ _ ⟨he, hg⟩ => ⟨he, hg.below⟩
theorem said : Rows.EntryBackSaid :=
  OpenClaim.holds_of_cond 6 Tryd.f6 rfl rfl rfl rfl rfl rfl rfl ⟨rfl, rfl, rfl, rfl, rfl⟩ rfl rfl rfl rfl rfl (by kernel_rfl) Tryd.func6 (by kernel_rfl)
    (of_decide_eq_true (by kernel_rfl)) (by unfold Func.isWrapper; first | (rw [if_pos (by decide +kernel)]; kernel_rfl) | (rw [if_neg (by decide +kernel)]; exact ⟨rfl, rfl⟩))
    (fun os started H enc _ F => by rw [OpenClaim.pre_eq_preRow]; exact lifted os started H enc F)
theorem plain (f : FuncId) (fn : Func) (hf : Tryd.pinned.checked.prog.funcNamed "palisade/palisadelaw05.EntryBack" = some f) (hfn : Tryd.pinned.checked.prog.funcs[f]? = some fn) :
    false = Tryd.pinned.checked.prog.looks [] ∧ ∀ (j : Nat) t, fn.params[j]? = some t → Tryd.pinned.checked.prog.wantsStandIn t = false := by
  obtain rfl : f = 6 := Option.some.inj ((show Tryd.prog.funcNamed "palisade/palisadelaw05.EntryBack" = some 6 by kernel_rfl).symm.trans hf) |>.symm
  obtain rfl : fn = Tryd.f6 := (Option.some.inj (Tryd.func6.symm.trans hfn)).symm
  refine ⟨by kernel_rfl, fun j t ht => ?_⟩
  have hall : (Tryd.f6.params.toList.all fun t => Tryd.prog.wantsStandIn t == false) = true := by kernel_rfl
  have := List.all_eq_true.mp hall t (by have := Array.mem_of_getElem? ht; simpa using this)
  exact eq_of_beq this
theorem card : Rows.EntryBackCardSaid :=
  Claim7.holds_tied_plain_at .later [] _ _ _ _ said (fun _ h => by cases h) (by kernel_rfl) (fun _ h => by cases h) entryBack_row_tie rfl ⟨rfl, rfl⟩ (by kernel_rfl) rfl plain (by kernel_rfl)
end entryBack
theorem entryBack_holds : Rows.EntryBackCardSaid := entryBack.card
#print axioms entryBack_holds
end Go.Proofs.YtecjomldekhbjaaDoor
