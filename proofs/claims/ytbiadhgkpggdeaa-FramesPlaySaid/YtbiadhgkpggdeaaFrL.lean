/- frames: List. -/
import Derived.Test.YtbiadhgkpggdeaaFrP
import Derived.Laws.AppendOwn
namespace Go.Proofs.Ytbiadhgkpggdeaa
open Go Go.RowKit
set_option linter.unusedSimpArgs false
set_option linter.unusedVariables false
/-- An owner's frames below k, rising. -/
def listC (T O : Nat → Nat) (o k : Nat) : List Nat := (List.range k).filter fun j => decide (0 < T j ∧ O j = o)
theorem listC_succ (T O : Nat → Nat) (o k : Nat) : listC T O o (k + 1) = listC T O o k ++ (if 0 < T k ∧ O k = o then [k] else []) := by
  unfold listC
  rw [List.range_succ, List.filter_append]
  by_cases h : 0 < T k ∧ O k = o
  · rw [if_pos h]; simp [h]
  · rw [if_neg h]; simp only [List.filter_cons, List.filter_nil, decide_eq_false h]; rfl
theorem listC_length (T O : Nat → Nat) (o : Nat) : ∀ k, (listC T O o k).length = ownC k T O o
  | 0 => rfl
  | k + 1 => by
    rw [listC_succ, List.length_append, listC_length T O o k]
    unfold ownC
    show _ = cn _ k + _
    by_cases h : 0 < T k ∧ O k = o
    · rw [if_pos h, if_pos (by simpa using h)]; rfl
    · rw [if_neg h, if_neg (by simpa using h)]; rfl
theorem listC_mem {T O : Nat → Nat} {o k j : Nat} : j ∈ listC T O o k ↔ j < k ∧ 0 < T j ∧ O j = o := by
  unfold listC; rw [List.mem_filter, List.mem_range]; simp
def valsOf (l : List Nat) : List Value := l.map fun j => Value.int .i64 (j : Nat)
theorem List_bad {w : World} {p bt bw n first low : Nat} {T O : Nat → Nat} {quo : Nat → Int} (h : FrAt w p bt bw n first T O quo low) {x : Int} (hx : ¬ isOwn x) :
    Calls Try.prog 15 #[.pointer (some ⟨p, 0, none⟩), .int .i64 x] w fun r w' => r = .returned (.slice none 0 0) ∧ Grows w w' := by
  have hno := none_ok h
  have hio := isOwner_is x w
  rw [decide_eq_false hx] at hio
  clear h hx
  go_enter Try.func15, Try.ntmps15
  go_wp2_with fail
  refine (hno).mono ?_
  rintro _ _ ⟨rfl, hw⟩
  rw [hw]
  clear hw
  go_wp2_with fail
  refine (hio).mono ?_
  rintro _ _ ⟨rfl, hw⟩
  rw [hw]
  clear hw
  go_wp2_with fail
  go_ret
  exact ⟨rfl, Grows.refl _⟩
theorem info_parts' {o : Option TypeInfo} {z : Option Value} {sz b : Nat} (h : o.map (fun i => (i.zero, i.size, i.bytes)) = some (z, sz, b)) : ∃ i, o = some i ∧ i.zero = z ∧ i.size = sz ∧ i.bytes = b := by
  cases o with
  | none => simp at h
  | some i => simp at h; exact ⟨i, rfl, h.1, h.2.1, h.2.2⟩
theorem info_int' : (Try.prog.info? 3).map (fun i => (i.zero, i.size, i.bytes)) = some (some (.int .i64 0), 1, 8) := by kernel_rfl
theorem run_app1 {w : World} {base L b : Nat} {v : Value} {xs : List Value} (ty : TypeId) (hown : w.ownsRow base 3 1 v L xs) (x : Int) (hx : w.cell? ⟨b, 0, none⟩ = some (.int .i64 x)) (hL : L ≤ 1000000) (hbase : base ≤ w.heap.size) :
    ∃ v' w', (Builtin.append_ #[45, 45] ty #[v, .slice (some ⟨b, 0, none⟩) 1 1]).run Try.prog w = .ok v' w' ∧ w'.ownsRow base 3 1 v' (L + 1) (xs ++ [.int .i64 x]) ∧ w.grownBy w' v.ownBlock := by
  obtain ⟨i, hi, hz0, hz1, hz2⟩ := info_parts' info_int'
  obtain ⟨v', w', hr, h1, h2, _⟩ := run_append_own (P := Try.prog) w base 45 ty 3 i (.int .i64 0) 1 8 Try.underlying45 hi hz0 hz1 hz2 rfl (by omega) v L xs hown ⟨b, 0, none⟩ 1 1 [.int .i64 x] rfl (fun j u hu => by
    match j with
    | 0 => simp at hu; subst hu; exact hx
    | j + 1 => simp at hu) (fun u hu => by simp at hu; subst hu; rfl) (by unfold maxLen; omega) (by omega) hbase
  exact ⟨v', w', hr, h1, h2⟩
theorem grows_own {w x y : World} {e : TypeId} {L : Nat} {v : Value} {xs : List Value} (hg : Grows w x) (ho : x.ownsRow w.heap.size e 1 v L xs) (h : x.grownBy y v.ownBlock) : Grows w y :=
  Chg.nil_grows (Chg.grownBy (Chg.of_grows hg) h (fun b hb => by
    rcases ho.2 with ⟨rfl, _⟩ | ⟨g, cap, cur, rfl, hbg, _⟩
    · simp [Value.ownBlock] at hb
    · simp [Value.ownBlock] at hb; subst hb; exact Or.inr hbg))
theorem wpList_app1 {w : World} {ops : Array Oper} {rest : List Oper} {o : Oper} {a : Act} {Q : Exit → Act → World → Prop} (hgd : o.guard = none) (s x : Operand)
    (ho : o.op = .call { callee := .builtin .append, args := #[s, x], argTypes := #[45, 45] }) {base L b : Nat} {v : Value} {xs : List Value} {x0 : Int} (hs : a.eval s = v)
    (hown : w.ownsRow base 3 1 v L xs) (hx : a.eval x = .slice (some ⟨b, 0, none⟩) 1 1) (hc : w.cell? ⟨b, 0, none⟩ = some (.int .i64 x0)) (hL : L ≤ 1000000) (hbase : base ≤ w.heap.size)
    (h : ∀ v' w', w'.ownsRow base 3 1 v' (L + 1) (xs ++ [.int .i64 x0]) → w.grownBy w' v.ownBlock → wpList Try.prog ops Q rest (a.put o.dst v') w') : wpList Try.prog ops Q (o :: rest) a w := by
  refine wpList_plain hgd fun K hK => ?_
  obtain ⟨v', w', hrun, h1, h2⟩ := run_app1 o.type hown x0 hc hL hbase
  unfold Oper.wp
  simp [execOp, ho, resolve, invoke, builtin, hs, hx, hrun, Result.andThen]
  exact hK _ _ (h v' w' h1 h2)
set_option maxRecDepth 100000 in
set_option maxHeartbeats 2000000 in
theorem List_any {w : World} {p bt bw n first low o : Nat} {T O : Nat → Nat} {quo : Nat → Int} (h : FrAt w p bt bw n first T O quo low) (ho17 : o < 17) :
    Calls Try.prog 15 #[.pointer (some ⟨p, 0, none⟩), .int .i64 o] w fun r w' => ∃ v, r = .returned v ∧ w'.ownsRow w.heap.size 3 1 v (ownC n T O o) (valsOf (listC T O o n)) ∧ Grows w w' := by
  have hno := none_ok h
  have hio := isOwner_is o w
  rw [decide_eq_true (show isOwn (o : Int) from ⟨by omega, by omega⟩)] at hio
  obtain ⟨c0, c1, c2, c3, c4⟩ := h.row.cells
  have hn2 := h.n2
  have HF := Lib.hid h
  clear h
  go_enter Try.func15, Try.ntmps15
  go_wp2_with fail
  refine (hno).mono ?_
  rintro _ _ ⟨rfl, hw⟩
  rw [hw]
  clear hw
  go_wp2_with fail
  refine (hio).mono ?_
  rintro _ _ ⟨rfl, hw⟩
  rw [hw]
  clear hw
  go_wp2_with fail
  clear hno hio c0 c1 c2 c3 c4
  go_loopw [5, 18] (fun v c wr => ∃ k : Nat, k ≤ n ∧ c = .int .i64 k ∧ wr.ownsRow w.heap.size 3 1 v (ownC k T O o) (valsOf (listC T O o k)) ∧ Grows w wr) (fun _ c _ => (n - intOf c).toNat)
  case atStart => exact ⟨0, by omega, rfl, World.ownsRow_nil _ _ _ _, Grows.refl _⟩
  case round =>
    obtain ⟨k, hk, rfl, hown, hG⟩ := hrel
    have HX := Lib.hid (HF.out.grows hG)
    obtain ⟨c0, c1, c2, c3, c4⟩ := HX.out.row.cells
    have l1 := HX.out.row.lt
    have HG := Lib.hid hG
    have hbase := hG.size
    clear hG
    by_cases hlt : k < n
    · have ht := HX.out.look_tj hlt
      by_cases hT : 0 < T k
      · have hw := HX.out.look_w hlt hT
        by_cases hO : O k = o
        · have hL : ownC k T O o ≤ k := ownC_le
          have e1 : ownC (k + 1) T O o = ownC k T O o + 1 := by
            show cn _ k + _ = _
            rw [if_pos (by simp [hT, hO])]; rfl
          have e2 : valsOf (listC T O o (k + 1)) = valsOf (listC T O o k) ++ [.int .i64 (k : Nat)] := by
            rw [listC_succ, if_pos ⟨hT, hO⟩]; unfold valsOf; rw [List.map_append]; rfl
          obtain ⟨w5, hw5⟩ : ∃ w5, w5 = wr.alloc (.cells #[.int .i64 (k : Int)] 3) := ⟨_, rfl⟩
          have hg5 : Grows wr w5 := by rw [hw5]; exact (Grows.refl _).alloc _
          have hown5 := hown.kept (grown_none hg5) (by cases u5 with | slice a _ _ => cases a <;> simp [Value.ownBlock] | _ => simp [Value.ownBlock])
          have hx5 : w5.cell? ⟨wr.heap.size, 0, none⟩ = some (.int .i64 (k : Int)) := by rw [hw5]; exact (Row.new wr #[Value.int .i64 (k : Int)] 3).cell 0
          have H5 := Lib.hid hown5
          have HG5 := Lib.hid hg5
          have hb5 := Nat.le_trans hbase hg5.size
          have E1 := Lib.hid e1
          have E2 := Lib.hid e2
          rw [hO] at hw
          rw [hw5] at hx5 hb5
          have H5' : Hid ((wr.alloc (.cells #[.int .i64 (k : Int)] 3)).ownsRow w.heap.size 3 1 u5 (ownC k T O o) (valsOf (listC T O o k))) := by rw [← hw5]; exact H5.out
          have HG5' : Hid (Grows wr (wr.alloc (.cells #[.int .i64 (k : Int)] 3))) := by rw [← hw5]; exact HG5.out
          clear hw5 hg5 hown5 hown e1 e2 hO H5 HG5
          go_wp2_with (at_builtin; refine wpList_app1 (by rfl) (.tmp 38) (.tmp 40) (by rfl) (by rfl) H5'.out (by rfl) hx5 (by omega) hb5 ?_; intro v' w6 hown6 hgr6)
          have HG6 : Hid (Grows w w6) := grows_own (HG.out.trans HG5'.out) H5'.out hgr6
          rw [← E1.out, ← E2.out] at hown6
          have HO6 := Lib.hid hown6
          clear hown6 hgr6
          go_wp2_with fail
          exact ⟨⟨k + 1, by omega, by simp, HO6.out, HG6.out⟩, by simp [intOf]; omega⟩
        · have e1 : ownC (k + 1) T O o = ownC k T O o := by
            show cn _ k + _ = _
            rw [if_neg (by simp [hO])]; rfl
          have e2 : listC T O o (k + 1) = listC T O o k := by rw [listC_succ, if_neg (fun h => hO h.2), List.append_nil]
          rw [← e1, ← e2] at hown
          have HO6 := Lib.hid hown
          have hb : ((O k : Int) == (o : Int)) = false := by simp; omega
          generalize O k = ok at *
          generalize T k = tk at *
          clear hown e1 e2 hO
          go_wp2_with fail
          exact ⟨⟨k + 1, by omega, by simp, HO6.out, HG.out⟩, by simp [intOf]; omega⟩
      · have e1 : ownC (k + 1) T O o = ownC k T O o := by
          show cn _ k + _ = _
          rw [if_neg (by simp; omega)]; rfl
        have e2 : listC T O o (k + 1) = listC T O o k := by rw [listC_succ, if_neg (fun h => hT h.1), List.append_nil]
        rw [← e1, ← e2] at hown
        have HO6 := Lib.hid hown
        have hT0 : T k = 0 := by omega
        rw [hT0] at ht
        clear hown e1 e2 hT hT0
        go_wp2_with fail
        exact ⟨⟨k + 1, by omega, by simp, HO6.out, HG.out⟩, by simp [intOf]; omega⟩
    · have : n = k := by omega
      subst this
      have HOWN := Lib.hid hown
      clear hown
      go_wp2_with fail
      go_ret
      exact ⟨_, rfl, HOWN.out, HG.out⟩
end Go.Proofs.Ytbiadhgkpggdeaa
