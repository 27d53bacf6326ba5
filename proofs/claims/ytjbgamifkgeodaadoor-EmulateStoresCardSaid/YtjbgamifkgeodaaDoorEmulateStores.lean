/- EmulateStores: of a store just the lowest bytes are told, and no register changes; of a load just its register does; x0 never. For all registers and numbers. The card ties the table of widths to the text of the program. -/
import Derived.Test.YtjbgamifkgeodaaDoorEmuStoW2
import Derived.Test.YtjbgamifkgeodaaDoorRow
import Derived.Test.YtjbgamifkgeodaaDoorCards
import Derived.Test.YtjbgamifkgeodaaDoorTie
import Derived.Deep.DeepHandedRow
import Derived.Lib.LaidTab
import Derived.Test.YtjbgamifkgeodaaDoorLaid
namespace Go.Proofs.YtjbgamifkgeodaaDoor
open Go Go.RowKit
set_option linter.unusedSimpArgs false
set_option linter.unusedVariables false
namespace emulateStores
open Go.ChangeShapes Go.WideShapes Go.ChangeAt Go.RowKit
theorem own : ownKnob Tryd.prog.godebug = none := by kernel_rfl
theorem table0 {W : World} (h : laidMetH Tryd.prog Rows.emulateStoresRow.laid W) : Widths W := by
  have ht : Lib.TabIs Tryd.prog W "palisade/word.widths" .i64 [1, 0, 4, 8] :=
    Lib.tabIs_of_head (g := 0) (rest := []) (by kernel_rfl) (by kernel_rfl) Tryd.underlying72 Tryd.underlying3 (by kernel_rfl) (by kernel_rfl) h
  have hg : Tryd.prog.globalNamed "palisade/word.widths" = some 0 := by kernel_rfl
  have hc : ∀ i, i < 4 → W.cell? ⟨0, i, none⟩ = #[Value.int .i64 1, Value.int .i64 0, Value.int .i64 4, Value.int .i64 8][i]? := fun i hi => by
    rw [ht.cell hg i (by simpa using hi)]
    match i, hi with
    | 0, _ => rfl
    | 1, _ => rfl
    | 2, _ => rfl
    | 3, _ => rfl
  have hlt := cell_block_lt (hc 0 (by decide))
  refine ⟨hlt, fun i => ?_⟩
  rcases Nat.lt_or_ge i 4 with hi | hi
  · exact hc i hi
  · have hv : W.cell? ⟨0, i, none⟩ = none := by
      have h1 := World.var?_cell hg ht i
      rw [h1]; simp; omega
    rw [hv, Array.getElem?_eq_none (by simpa using hi)]
/-- A world for the witness: the settled one, the tables holding what their initialisers lay. -/
noncomputable def laidWorld (os : Os) : World :=
  { World.holding Tryd.prog os ⟨#[], #[], []⟩ with heap := ((World.holding Tryd.prog os ⟨#[], #[], []⟩).heap.modify 0 fun
      | .cells _ t frozen => .cells #[.int .i64 1, .int .i64 0, .int .i64 4, .int .i64 8] t frozen
      | o => o) }
theorem laid_met (os : Os) : laidMet Tryd.prog Rows.emulateStoresRow.laid ((laidWorld os).forCall (fun _ _ => 0) ⟨#[], #[.agg #[.int .u64 0, .int .u64 0, .int .u64 0, .int .u64 0, .int .u64 0, .int .u64 0, .int .u64 0, .int .u64 0, .int .u64 0, .int .u64 0, .int .u64 0, .int .u64 0, .int .u64 0, .int .u64 0, .int .u64 0, .int .u64 0, .int .u64 0, .int .i64 0], .int .i64 0, .int .i64 0], []⟩).memory :=
  laidMet_of_run' 8 (by kernel_rfl) (by kernel_rfl)
theorem reads (os : Os) {H : Type} (enc : TypeId × Value → H) : ∃ places, DataW.whole enc Tryd.prog ((laidWorld os).forCall (fun _ _ => 0) ⟨#[], #[.agg #[.int .u64 0, .int .u64 0, .int .u64 0, .int .u64 0, .int .u64 0, .int .u64 0, .int .u64 0, .int .u64 0, .int .u64 0, .int .u64 0, .int .u64 0, .int .u64 0, .int .u64 0, .int .u64 0, .int .u64 0, .int .u64 0, .int .u64 0, .int .i64 0], .int .i64 0, .int .i64 0], []⟩).memory Tryd.f4.params.toList Rows.emulateStoresSpec.vars false (#[.agg #[.int .u64 0, .int .u64 0, .int .u64 0, .int .u64 0, .int .u64 0, .int .u64 0, .int .u64 0, .int .u64 0, .int .u64 0, .int .u64 0, .int .u64 0, .int .u64 0, .int .u64 0, .int .u64 0, .int .u64 0, .int .u64 0, .int .u64 0, .int .i64 0], .int .i64 0, .int .i64 0] : Array Value).toList 8 = some ([.agg [.agg [.lit (.int .u64 0), .lit (.int .u64 0), .lit (.int .u64 0), .lit (.int .u64 0), .lit (.int .u64 0), .lit (.int .u64 0), .lit (.int .u64 0), .lit (.int .u64 0), .lit (.int .u64 0), .lit (.int .u64 0), .lit (.int .u64 0), .lit (.int .u64 0), .lit (.int .u64 0), .lit (.int .u64 0), .lit (.int .u64 0), .lit (.int .u64 0)], .lit (.int .u64 0), .lit (.int .i64 0)], .lit (.int .i64 0), .lit (.int .i64 0)], [], places) :=
  ⟨[], by kernel_rfl⟩
set_option maxRecDepth 100000 in
theorem lifted (os : Os) (started : os.Started) (H : Type) (enc : TypeId × Value → H) (F : Stop.Interp) :
    ReturnsInHanded {} Tryd.checked os 4 .any ((OpenSpec.ofChange Rows.emulateStoresSpec).preRow enc Tryd.prog Tryd.f4 Rows.emulateStoresRow.domain false Rows.emulateStoresRow.laid) (((OpenSpec.ofChange Rows.emulateStoresSpec).at F).post enc Tryd.prog Tryd.f4 false true false false) := by
  obtain ⟨places, hx⟩ := reads os enc
  refine returnsInHanded_of_row (C := Tryd.checked) (s := OpenSpec.ofChange Rows.emulateStoresSpec) own started (by kernel_rfl) Tryd.func4
    (witness_row_at (enc := enc) (C := Tryd.checked) false (laidWorld os) #[.agg #[.int .u64 0, .int .u64 0, .int .u64 0, .int .u64 0, .int .u64 0, .int .u64 0, .int .u64 0, .int .u64 0, .int .u64 0, .int .u64 0, .int .u64 0, .int .u64 0, .int .u64 0, .int .u64 0, .int .u64 0, .int .u64 0, .int .u64 0, .int .i64 0], .int .i64 0, .int .i64 0] rfl (by kernel_rfl) (by kernel_rfl) (by kernel_rfl)
      (OpenSpec.preRow_of_cond 8 hx (by kernel_rfl) (fun k hk => by cases hk) (by kernel_rfl) (laid_met os))) ?_
  intro W base args ds gs before hval hW _ _ hsz hL _ _
  refine law_contract (P := Tryd.prog) (s := Rows.emulateStoresSpec) rfl (by kernel_rfl) (by kernel_rfl) (by kernel_rfl) Tryd.underlying4 (fun ds h => ?_) W args ds gs before hW hsz (fun ps hA hlt hz hsize => ?_)
  · match ds, h with
    | [_, _, _], _ => rfl
  · have hT0 := table0 hL
    obtain ⟨l⟩ := args
    obtain ⟨v0, l0, rfl, hs0⟩ := args_cons (n := 2) (by simpa [Tryd.params4] using hsize)
    obtain ⟨v1, l1, rfl, hs1⟩ := args_cons (n := 1) hs0
    obtain ⟨v2, l2, rfl, hs2⟩ := args_cons (n := 0) hs1
    obtain rfl := List.eq_nil_of_length_eq_zero hs2
    have hv0 := hval 0 26 v0 (by rw [Tryd.params4]; rfl) rfl
    have hv1 := hval 1 3 v1 (by rw [Tryd.params4]; rfl) rfl
    have hv2 := hval 2 3 v2 (by rw [Tryd.params4]; rfl) rfl
    clear hval hsize
    obtain ⟨cs0, rfl, hc0_0⟩ := open_flat (ts := List.replicate 16 23 ++ ([23, 3])) (by kernel_rfl) (by kernel_rfl) (by kernel_rfl) hv0
    obtain ⟨x0_0, r0_0, rfl, len0_0, wf0_0, hc0_1⟩ := cellsOk_ints Tryd.underlying23 16 hc0_0
    obtain ⟨c0_1, r0_1, rfl, h0_1, hc0_2⟩ := cellsOk_cons hc0_1; obtain ⟨x0_1, rfl, wf0_1⟩ := cell_int Tryd.underlying23 h0_1
    obtain ⟨c0_2, r0_2, rfl, h0_2, hc0_3⟩ := cellsOk_cons hc0_2; obtain ⟨x0_2, rfl, wf0_2⟩ := cell_int Tryd.underlying3 h0_2
    obtain rfl := cellsOk_nil hc0_3
    obtain ⟨a1, rfl, wf1⟩ := arg_int Tryd.underlying3 hv1
    obtain ⟨a2, rfl, wf2⟩ := arg_int Tryd.underlying3 hv2
    exact (emulateStores_walk x0_0 len0_0 wf0_0 x0_1 wf0_1 x0_2 wf0_2 a1 wf1 a2 wf2 W hT0).mono fun _ _ ⟨he, hg⟩ => ⟨he, hg.below⟩
theorem said : Rows.EmulateStoresSaid :=
  OpenClaim.holds_of_cond 4 Tryd.f4 rfl rfl rfl rfl rfl rfl rfl ⟨rfl, rfl, rfl, rfl, rfl⟩ rfl rfl rfl rfl rfl (by kernel_rfl) Tryd.func4 (by kernel_rfl)
    (of_decide_eq_true (by kernel_rfl)) (by unfold Func.isWrapper; first | (rw [if_pos (by decide +kernel)]; kernel_rfl) | (rw [if_neg (by decide +kernel)]; exact ⟨rfl, rfl⟩))
    (fun os started H enc _ F => by rw [OpenClaim.pre_eq_preRow]; exact lifted os started H enc F)
theorem plain (f : FuncId) (fn : Func) (hf : Tryd.pinned.checked.prog.funcNamed "palisade/palisadelaw19.EmulateStores" = some f) (hfn : Tryd.pinned.checked.prog.funcs[f]? = some fn) :
    false = Tryd.pinned.checked.prog.looks [] ∧ ∀ (j : Nat) t, fn.params[j]? = some t → Tryd.pinned.checked.prog.wantsStandIn t = false := by
  obtain rfl : f = 4 := Option.some.inj ((show Tryd.prog.funcNamed "palisade/palisadelaw19.EmulateStores" = some 4 by kernel_rfl).symm.trans hf) |>.symm
  obtain rfl : fn = Tryd.f4 := (Option.some.inj (Tryd.func4.symm.trans hfn)).symm
  refine ⟨by kernel_rfl, fun j t ht => ?_⟩
  have hall : (Tryd.f4.params.toList.all fun t => Tryd.prog.wantsStandIn t == false) = true := by kernel_rfl
  have := List.all_eq_true.mp hall t (by have := Array.mem_of_getElem? ht; simpa using this)
  exact eq_of_beq this
theorem card : Rows.EmulateStoresCardSaid :=
  Claim7.holds_tied_plain_at .later [] _ _ _ _ said (fun _ h => by cases h) (by kernel_rfl) (fun _ h => by cases h) emulateStores_row_tie rfl ⟨rfl, rfl⟩ (by kernel_rfl) rfl plain (by kernel_rfl)
end emulateStores
theorem emulateStores_holds : Rows.EmulateStoresCardSaid := emulateStores.card
#print axioms emulateStores_holds
end Go.Proofs.YtjbgamifkgeodaaDoor
