/- The table of shapes: what fill, shapes and Shape of the package insn compute. -/
import Derived.Test.YtjbgamifkgeodaaDoorInsn
import Derived.Test.YtjbgamifkgeodaaDoorCell
import Derived.Carry
namespace Go.Proofs.YtjbgamifkgeodaaDoor
open Go Go.RowKit
set_option linter.unusedSimpArgs false
set_option linter.unusedVariables false
def fillF (f : Int → Option Int) (v : Int) (ks : List Int) : Int → Option Int := ks.foldl (fun f k => imUpd f k v) f
theorem fillF_snoc (f : Int → Option Int) (v : Int) (ks : List Int) (k : Int) : fillF f v (ks ++ [k]) = imUpd (fillF f v ks) k v := by
  simp [fillF, List.foldl_append]
theorem fillF_at (v : Int) (x : Int) : ∀ (ks : List Int) (f : Int → Option Int), fillF f v ks x = if x ∈ ks then some v else f x
  | [], f => by simp [fillF]
  | k :: ks, f => by
    have := fillF_at v x ks (imUpd f k v)
    show fillF (imUpd f k v) v ks x = _
    rw [this]
    unfold imUpd
    by_cases h1 : x ∈ ks <;> by_cases h2 : x = k <;> simp [h1, h2]
theorem zero_int (w : World) : (zeroValue 3).run Tryd.prog w = .ok (.int .i64 0) w := by
  have h : ∀ w, (zeroValue 3).run Tryd.prog w = .ok (.int .i64 0) w := fun w => by kernel_rfl
  exact h w
def FilledM (w : World) (b s m : Nat) (f : Int → Option Int) (w' : World) : Prop := ∃ s', s' ≤ s + m ∧ IMap Tryd.prog 3 3 w' b s' f
set_option maxHeartbeats 2000000 in
theorem fill_any {b s bk : Nat} {f : Int → Option Int} {ks : List Int} {w : World} (h : IMap Tryd.prog 3 3 w b s f) (hs : s + ks.length < 1000) (v : Int) (wv : wf64 v) (wk : ∀ k ∈ ks, wf64 k)
    (hk : Row w bk (ks.map (Value.int .i64)).toArray 3) (hn : bk ≠ b) :
    Calls Tryd.prog 38 #[.map (some b), .int .i64 v, .slice (some ⟨bk, 0, none⟩) ks.length ks.length] w fun r w' => r = .returned (.tuple #[]) ∧ FilledM w b s ks.length (fillF f v ks) w' ∧ w.grownBy w' (some b) := by
  have hl : ks.length < 1000 := by omega
  have HS := Lib.hid hs
  clear hs
  go_enter Tryd.func38, Tryd.ntmps38
  go_wp2_with fail
  go_loopw [10] (fun i wr => (∃ k : Nat, k ≤ ks.length ∧ i = .int .i64 k ∧ FilledM w b s k (fillF f v (ks.take k)) wr) ∧ w.grownBy wr (some b)) (fun i _ => (ks.length - intOf i).toNat)
  case atStart => exact ⟨⟨0, by omega, rfl, ⟨s, by omega, h⟩⟩, World.grownBy.refl _ _⟩
  case round =>
    obtain ⟨⟨k, hkl, rfl, s', hs', hM⟩, hg⟩ := hrel
    by_cases hlt : k < ks.length
    · have hrow : Row wr bk (ks.map (Value.int .i64)).toArray 3 := by
        unfold Row at *
        rw [hg.block bk (Row.lt hk) (fun e => hn (by injection e))]; exact hk
      have ck : wr.cell? ⟨bk, k, none⟩ = some (.int .i64 ks[k]) := by
        rw [hrow.cell]; simp [hlt]
      have lk := hrow.lt
      have wkk : wf64 ks[k] := wk _ (List.getElem_mem hlt)
      have hsn : ks.take (k + 1) = ks.take k ++ [ks[k]] := List.take_succ_eq_append_getElem hlt
      obtain ⟨K, hK⟩ : ∃ K, K = ks[k] := ⟨_, rfl⟩
      rw [← hK] at ck wkk hsn
      have HSN := Lib.hid hsn
      have HM := Lib.hid hM
      have HW := Lib.hid wkk
      have HG := Lib.hid hg
      have HK := Lib.hid hk
      clear hsn hM wkk hK hg hk hrow
      go_wp2_with (refine wpList_imap_update _ (by rfl) _ _ _ 69 (Or.inl (by rfl)) 3 3 Tryd.underlying3 Tryd.underlying3 Tryd.underlying69 b s' (fillF f v (ks.take k)) (by rfl) (by exact HM.out) (by have := HS.out; simp only [maxLen]; omega) K v (by rfl) (by rfl) HW.out wv ?_; intro w2 hM2 hg2)
      refine ⟨⟨⟨k + 1, by omega, by simp, ?_⟩, HG.out.trans hg2⟩, by simp [intOf]; omega⟩
      rw [HSN.out, fillF_snoc]
      exact ⟨_, by split <;> omega, hM2⟩
    · have : k = ks.length := by omega
      subst this
      go_wp2_with fail
      rw [List.take_length] at hM
      go_end0
      exact ⟨rfl, ⟨s', hs', hM⟩, hg⟩
def shapeF : Int → Option Int := (fillF (fillF (fillF (fillF (fillF (fillF (imUpd (fun _ => none) 45 6) 0 ([41, 42, 43, 44] : List Int)) 1 ([1, 2, 3, 4, 5, 6, 7, 8, 9, 10, 11, 12, 13, 37, 38, 39, 40] : List Int)) 2 ([14, 15, 16, 17, 18, 19, 20, 21, 23, 24, 25, 36, 46, 47, 48] : List Int)) 3 ([26, 27, 28] : List Int)) 4 ([29, 30, 31, 32, 33, 34] : List Int)) 5 ([22, 35] : List Int))
theorem shapeF_at (x : Int) : shapeF x = if 0 ≤ shapeZ x then some (shapeZ x) else none := by
  unfold shapeF
  simp only [fillF_at, imUpd, List.mem_cons, List.not_mem_nil, or_false]
  unfold shapeZ
  by_cases h : 1 ≤ x ∧ x ≤ 48
  · obtain ⟨X, rfl⟩ := Int.eq_ofNat_of_zero_le (show 0 ≤ x by omega)
    have : X ∈ List.range 49 := by simp; omega
    revert h
    have hall : ∀ X ∈ List.range 49, (1 ≤ (X : Int) ∧ (X : Int) ≤ 48) → shapeF (X : Int) = if 0 ≤ shapeZ X then some (shapeZ X) else none := by decide
    intro h
    have := hall X this h
    unfold shapeF at this
    simp only [fillF_at, imUpd, List.mem_cons, List.not_mem_nil, or_false] at this
    unfold shapeZ at this
    exact this
  · repeat rw [if_neg (by omega)]
def ShapesM (w : World) (r : Ending) (w' : World) : Prop := ∃ b s, r = .returned (.map (some b)) ∧ IMap Tryd.prog 3 3 w' b s shapeF ∧ Grows w w'
set_option maxHeartbeats 4000000 in
theorem shapes_any (w : World) : Calls Tryd.prog 33 #[] w (ShapesM w) := by
  have hmm := @run_makeMap Tryd.prog
  go_enter Tryd.func33, Tryd.ntmps33
  go_wp2_with (refine wpList_imap_update _ (by rfl) _ _ _ 69 (Or.inr (by rfl)) 3 3 Tryd.underlying3 Tryd.underlying3 Tryd.underlying69 w.heap.size 0 (fun _ => none) (by rfl) (by exact IMap.made w _ _ _) (by decide) 45 6 (by rfl) (by rfl) (by decide) (by decide) ?_; intro w0 hM0 hg0)
  have G0 := Lib.hid (((Grows.refl w).alloc (.map #[] 0)).grown hg0 (fun k hk => by injection hk with hk; omega))
  have hb := hM0.lt
  obtain ⟨b, hbd⟩ : ∃ b, b = w.heap.size := ⟨_, rfl⟩
  rw [← hbd]
  rw [← hbd] at hM0
  have HB := Lib.hid (show w.heap.size ≤ b by omega)
  replace hM0 : IMap Tryd.prog 3 3 w0 b 1 (imUpd (fun _ => none) 45 6) := hM0
  clear hg0 hb hbd
  have hA0 := hM0.grows ((Grows.refl w0).alloc (Obj.cells (([41, 42, 43, 44] : List Int).map (Value.int .i64)).toArray 3))
  refine (fill_any (ks := [41, 42, 43, 44]) hA0 (by first | (simp; done) | (simp; omega)) 0 (by decide) (by decide) (Row.new w0 _ _) (by have := hM0.lt; omega)).mono ?_
  rintro _ w1 ⟨rfl, ⟨s1, hs1, hM1⟩, hg1⟩
  have G1 := Lib.hid ((G0.out.alloc _).grown hg1 (fun k hk => by injection hk with hk; have := HB.out; omega))
  simp only [List.length_cons, List.length_nil] at hs1
  go_wp2_with fail
  have hA1 := hM1.grows ((Grows.refl w1).alloc (Obj.cells (([1, 2, 3, 4, 5, 6, 7, 8, 9, 10, 11, 12, 13, 37, 38, 39, 40] : List Int).map (Value.int .i64)).toArray 3))
  refine (fill_any (ks := [1, 2, 3, 4, 5, 6, 7, 8, 9, 10, 11, 12, 13, 37, 38, 39, 40]) hA1 (by first | (simp; done) | (simp; omega)) 1 (by decide) (by decide) (Row.new w1 _ _) (by have := hM1.lt; omega)).mono ?_
  rintro _ w2 ⟨rfl, ⟨s2, hs2, hM2⟩, hg2⟩
  have G2 := Lib.hid ((G1.out.alloc _).grown hg2 (fun k hk => by injection hk with hk; have := HB.out; omega))
  simp only [List.length_cons, List.length_nil] at hs2
  go_wp2_with fail
  have hA2 := hM2.grows ((Grows.refl w2).alloc (Obj.cells (([14, 15, 16, 17, 18, 19, 20, 21, 23, 24, 25, 36, 46, 47, 48] : List Int).map (Value.int .i64)).toArray 3))
  refine (fill_any (ks := [14, 15, 16, 17, 18, 19, 20, 21, 23, 24, 25, 36, 46, 47, 48]) hA2 (by first | (simp; done) | (simp; omega)) 2 (by decide) (by decide) (Row.new w2 _ _) (by have := hM2.lt; omega)).mono ?_
  rintro _ w3 ⟨rfl, ⟨s3, hs3, hM3⟩, hg3⟩
  have G3 := Lib.hid ((G2.out.alloc _).grown hg3 (fun k hk => by injection hk with hk; have := HB.out; omega))
  simp only [List.length_cons, List.length_nil] at hs3
  go_wp2_with fail
  have hA3 := hM3.grows ((Grows.refl w3).alloc (Obj.cells (([26, 27, 28] : List Int).map (Value.int .i64)).toArray 3))
  refine (fill_any (ks := [26, 27, 28]) hA3 (by first | (simp; done) | (simp; omega)) 3 (by decide) (by decide) (Row.new w3 _ _) (by have := hM3.lt; omega)).mono ?_
  rintro _ w4 ⟨rfl, ⟨s4, hs4, hM4⟩, hg4⟩
  have G4 := Lib.hid ((G3.out.alloc _).grown hg4 (fun k hk => by injection hk with hk; have := HB.out; omega))
  simp only [List.length_cons, List.length_nil] at hs4
  go_wp2_with fail
  have hA4 := hM4.grows ((Grows.refl w4).alloc (Obj.cells (([29, 30, 31, 32, 33, 34] : List Int).map (Value.int .i64)).toArray 3))
  refine (fill_any (ks := [29, 30, 31, 32, 33, 34]) hA4 (by first | (simp; done) | (simp; omega)) 4 (by decide) (by decide) (Row.new w4 _ _) (by have := hM4.lt; omega)).mono ?_
  rintro _ w5 ⟨rfl, ⟨s5, hs5, hM5⟩, hg5⟩
  have G5 := Lib.hid ((G4.out.alloc _).grown hg5 (fun k hk => by injection hk with hk; have := HB.out; omega))
  simp only [List.length_cons, List.length_nil] at hs5
  go_wp2_with fail
  have hA5 := hM5.grows ((Grows.refl w5).alloc (Obj.cells (([22, 35] : List Int).map (Value.int .i64)).toArray 3))
  refine (fill_any (ks := [22, 35]) hA5 (by first | (simp; done) | (simp; omega)) 5 (by decide) (by decide) (Row.new w5 _ _) (by have := hM5.lt; omega)).mono ?_
  rintro _ w6 ⟨rfl, ⟨s6, hs6, hM6⟩, hg6⟩
  have G6 := Lib.hid ((G5.out.alloc _).grown hg6 (fun k hk => by injection hk with hk; have := HB.out; omega))
  simp only [List.length_cons, List.length_nil] at hs6
  go_wp2_with fail
  go_ret
  exact ⟨b, s6, rfl, hM6, G6.out⟩
set_option maxHeartbeats 2000000 in
theorem shape_any (op : Int) (wo : wf64 op) (w : World) :
    Calls Tryd.prog 23 #[.int .i64 op] w fun r w' => r = .returned (.tuple #[.int .i64 ((shapeF op).getD 0), .bool (shapeF op).isSome]) ∧ Grows w w' := by
  go_enter Tryd.func23, Tryd.ntmps23
  go_wp2_with fail
  refine (shapes_any _).mono ?_
  rintro _ w1 ⟨b, s, rfl, hM, hg⟩
  have HM := Lib.hid hM
  have HG := Lib.hid hg
  clear hM hg
  go_wp2_with (refine wpList_imap_look_ok _ (by rfl) _ _ 69 (by rfl) 3 3 Tryd.underlying3 Tryd.underlying3 Tryd.underlying69 (zero_int _) b s shapeF (by rfl) (by exact HM.out) op (by rfl) wo ?_; intro hw)
  go_ret2
  exact ⟨rfl, HG.out⟩
theorem shape_yes {op : Int} (wo : wf64 op) (h : 0 ≤ shapeZ op) (w : World) :
    Calls Tryd.prog 23 #[.int .i64 op] w fun r w' => r = .returned (.tuple #[.int .i64 (shapeZ op), .bool true]) ∧ Grows w w' := by
  have := shape_any op wo w
  rw [shapeF_at, if_pos h] at this
  exact this
theorem shape_no {op : Int} (wo : wf64 op) (h : ¬ 0 ≤ shapeZ op) (w : World) :
    Calls Tryd.prog 23 #[.int .i64 op] w fun r w' => r = .returned (.tuple #[.int .i64 0, .bool false]) ∧ Grows w w' := by
  have := shape_any op wo w
  rw [shapeF_at, if_neg h] at this
  exact this
end Go.Proofs.YtjbgamifkgeodaaDoor
