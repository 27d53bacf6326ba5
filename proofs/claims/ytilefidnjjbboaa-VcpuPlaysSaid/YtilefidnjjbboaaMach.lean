/- What the functions of the package machine compute: New, Cores, of. -/
import Derived.Test.YtilefidnjjbboaaMid
import Derived.Test.YtilefidnjjbboaaCsr
import Derived.Laws.AppendOwn
import Derived.Deep.DeepCutAuto
import Derived.Carry
import Derived.Lib.SliceRun
namespace Go.Proofs.Ytilefidnjjbboaa
open Go Go.RowKit
set_option linter.unusedSimpArgs false
set_option linter.unusedVariables false
theorem info_parts' {o : Option TypeInfo} {z : Option Value} {sz b : Nat} (h : o.map (fun i => (i.zero, i.size, i.bytes)) = some (z, sz, b)) : ∃ i, o = some i ∧ i.zero = z ∧ i.size = sz ∧ i.bytes = b := by
  cases o with
  | none => simp at h
  | some i => simp at h; exact ⟨i, rfl, h.1, h.2.1, h.2.2⟩
theorem info_u8' : (Try.prog.info? 5).map (fun i => (i.zero, i.size, i.bytes)) = some (some (.int .u8 0), 1, 1) := by kernel_rfl
theorem run_make_u8 (F : Nat) (hF : F ≤ 65536) (w : World) : (Instr.makeSlice 101 (.int .i64 ((F : Int) * 256)) (.int .i64 ((F : Int) * 256))).run Try.prog w =
    .ok (.slice (some ⟨w.heap.size, 0, none⟩) (F * 256) (F * 256)) (w.alloc (.cells (madeCells #[.int .u8 0] (F * 256)) 5)) := by
  obtain ⟨i0, hi, hz0, hz1, hz2⟩ := info_parts' info_u8'
  have h := run_make (P := Try.prog) w 101 5 i0 (.int .u8 0) Try.underlying101 hi hz0 .i64 .i64 ((F : Int) * 256) ((F : Int) * 256) (by omega) (by omega) (by rw [hz2]; omega) (by omega)
  rw [h, hz1]
  have e : ((F : Int) * 256).toNat = F * 256 := by omega
  rw [e, Nat.mul_one]
  rfl
/-- A memory's head. -/
def MemHd (w : World) (me F : Nat) : Prop := ∃ q, Row w me #[.slice (some ⟨q, 0, none⟩) (F * 256) (F * 256)] 103
theorem mnew_ok (F : Nat) (h1 : 1 ≤ F) (h2 : F ≤ 65536) (w : World) :
    Calls Try.prog 27 #[.int .i64 F] w fun r w' => ∃ p, r = .returned (.tuple #[.pointer (some ⟨p, 0, none⟩), .int .i64 0]) ∧ MemHd w' p F ∧ Grows w w' ∧ w.heap.size ≤ p := by
  have hmk := run_make_u8 F h2
  go_enter Try.func27, Try.ntmps27
  go_wp2_with fail
  go_ret2
  exact ⟨w.heap.size + 1, rfl, ⟨w.heap.size, Row.new_at _ _ _ (by simp)⟩, ((Grows.refl _).alloc _).alloc _, by omega⟩
theorem cnew_ok (w : World) :
    Calls Try.prog 28 #[.int .i64 16] w fun r w' => ∃ p, r = .returned (.tuple #[.pointer (some ⟨p, 0, none⟩), .int .i64 0]) ∧ Grows w w' := by
  have hmm := @run_makeMap Try.prog
  go_enter Try.func28, Try.ntmps28
  go_wp2_with fail
  go_ret2
  exact ⟨_, rfl, ((Grows.refl _).alloc _).alloc _⟩
/-- No context. -/
def cx0 : List Value := [.int .i64 0, .int .u64 0, .int .u64 0, .int .u64 0, .int .u64 0, .int .u64 0, .int .u64 0, .int .u64 0, .int .u64 0, .int .u64 0, .int .u64 0, .int .u64 0, .int .u64 0, .int .u64 0, .int .u64 0, .int .u64 0, .int .u64 0, .int .u64 0, .int .i64 0, .pointer none, .int .i64 0]
/-- A core. -/
def coreA (me pm : Nat) (cx : List Value) (is : Bool) (kp km : Nat) (hs : Bool) (ha : Int) : Array Value :=
  ([Value.pointer (some ⟨me, 0, none⟩), Value.pointer (some ⟨pm, 0, none⟩)] ++ cx ++ [Value.bool is, Value.pointer (some ⟨kp, 0, none⟩), Value.map (some km), Value.bool hs, Value.int .u64 ha]).toArray
theorem core_new (me pm kp km : Nat) : (#[.pointer (some ⟨me, 0, none⟩), .pointer (some ⟨pm, 0, none⟩), .int .i64 0, .int .u64 0, .int .u64 0, .int .u64 0, .int .u64 0, .int .u64 0, .int .u64 0, .int .u64 0, .int .u64 0, .int .u64 0, .int .u64 0, .int .u64 0, .int .u64 0, .int .u64 0, .int .u64 0, .int .u64 0, .int .u64 0, .int .u64 0, .int .i64 0, .pointer none, .int .i64 0, .bool false, .pointer (some ⟨kp, 0, none⟩), .map (some km), .bool false, .int .u64 0] : Array Value) = coreA me pm cx0 false kp km false 0 := rfl
/-- A core that holds a context, or none. -/
def CoreAt (w : World) (cb me pm : Nat) (st : Option (List Value)) : Prop :=
  ∃ kp km hs ha, Row w cb (coreA me pm (st.getD cx0) st.isSome kp km hs ha) 88
theorem info_core : (Try.prog.info? 83).map (fun i => (i.zero, i.size, i.bytes)) = some (some (.pointer none), 1, 8) := by kernel_rfl
theorem run_app1p {w : World} {base L b : Nat} {v : Value} {xs : List Value} (ty : TypeId) (hown : w.ownsRow base 83 1 v L xs) (x : Nat) (hx : w.cell? ⟨b, 0, none⟩ = some (.pointer (some ⟨x, 0, none⟩))) (hL : L ≤ 1000000) (hbase : base ≤ w.heap.size) :
    ∃ v' w', (Builtin.append_ #[73, 73] ty #[v, .slice (some ⟨b, 0, none⟩) 1 1]).run Try.prog w = .ok v' w' ∧ w'.ownsRow base 83 1 v' (L + 1) (xs ++ [.pointer (some ⟨x, 0, none⟩)]) ∧ w.grownBy w' v.ownBlock := by
  obtain ⟨i, hi, hz0, hz1, hz2⟩ := info_parts' info_core
  obtain ⟨v', w', hr, h1, h2, _⟩ := run_append_own (P := Try.prog) w base 73 ty 83 i (.pointer none) 1 8 Try.underlying73 hi hz0 hz1 hz2 rfl (by omega) v L xs hown ⟨b, 0, none⟩ 1 1 [.pointer (some ⟨x, 0, none⟩)] rfl (fun j u hu => by
    match j with
    | 0 => simp at hu; subst hu; exact hx
    | j + 1 => simp at hu) (fun u hu => by simp at hu; subst hu; rfl) (by unfold maxLen; omega) (by omega) hbase
  exact ⟨v', w', hr, h1, h2⟩
theorem wpList_app1p {w : World} {ops : Array Oper} {rest : List Oper} {o : Oper} {a : Act} {Q : Exit → Act → World → Prop} (hgd : o.guard = none) (s x : Operand)
    (ho : o.op = .call { callee := .builtin .append, args := #[s, x], argTypes := #[73, 73] }) {base L b x0 : Nat} {v : Value} {xs : List Value} (hs : a.eval s = v)
    (hown : w.ownsRow base 83 1 v L xs) (hx : a.eval x = .slice (some ⟨b, 0, none⟩) 1 1) (hc : w.cell? ⟨b, 0, none⟩ = some (.pointer (some ⟨x0, 0, none⟩))) (hL : L ≤ 1000000) (hbase : base ≤ w.heap.size)
    (h : ∀ v' w', w'.ownsRow base 83 1 v' (L + 1) (xs ++ [.pointer (some ⟨x0, 0, none⟩)]) → w.grownBy w' v.ownBlock → wpList Try.prog ops Q rest (a.put o.dst v') w') : wpList Try.prog ops Q (o :: rest) a w := by
  refine wpList_plain hgd fun K hK => ?_
  obtain ⟨v', w', hrun, h1, h2⟩ := run_app1p o.type hown x0 hc hL hbase
  unfold Oper.wp
  simp [execOp, ho, resolve, invoke, builtin, hs, hx, hrun, Result.andThen]
  exact hK _ _ (h v' w' h1 h2)
/-- A machine of N cores, whose blocks are cb, and what they hold. -/
structure MachAt (w : World) (pm me N F : Nat) (cb : Nat → Nat) (st : Nat → Option (List Value)) : Prop where
  hd : ∃ qs cap cur, Row w pm #[.pointer (some ⟨me, 0, none⟩), .slice (some ⟨qs, 0, none⟩) N cap] 75 ∧ Row w qs cur 83 ∧ ∀ i, i < N → cur[i]? = some (.pointer (some ⟨cb i, 0, none⟩))
  mem : MemHd w me F
  cores : ∀ i, i < N → CoreAt w (cb i) me pm (st i)
  inj : ∀ i j, i < N → j < N → cb i = cb j → i = j
  ne : ∀ i, i < N → cb i ≠ pm ∧ cb i ≠ me
theorem MemHd.grows {w w' : World} {me F : Nat} (h : MemHd w me F) (hg : Grows w w') : MemHd w' me F := by
  obtain ⟨q, hr⟩ := h
  exact ⟨q, hr.grows hg⟩
theorem MemHd.chg {S : List Nat} {w w' : World} {me F : Nat} (h : MemHd w me F) (hc : Chg S w w') (hn : me ∉ S) : MemHd w' me F := by
  obtain ⟨q, hr⟩ := h
  exact ⟨q, hr.chg hc hn⟩
theorem CoreAt.chg {S : List Nat} {w w' : World} {cb me pm : Nat} {st : Option (List Value)} (h : CoreAt w cb me pm st) (hc : Chg S w w') (hn : cb ∉ S) : CoreAt w' cb me pm st := by
  obtain ⟨kp, km, hs, ha, hr⟩ := h
  exact ⟨kp, km, hs, ha, hr.chg hc hn⟩
theorem CoreAt.lt {w : World} {cb me pm : Nat} {st : Option (List Value)} (h : CoreAt w cb me pm st) : cb < w.heap.size := by
  obtain ⟨kp, km, hs, ha, hr⟩ := h
  exact hr.lt
/-- The cores' pointers. -/
def ptrs (cb : Nat → Nat) (k : Nat) : List Value := (List.range k).map fun i => Value.pointer (some ⟨cb i, 0, none⟩)
theorem ptrs_succ (cb : Nat → Nat) (k : Nat) : ptrs cb (k + 1) = ptrs cb k ++ [.pointer (some ⟨cb k, 0, none⟩)] := by
  unfold ptrs; rw [List.range_succ, List.map_append]; rfl
theorem ptrs_congr {cb cb' : Nat → Nat} {k : Nat} (h : ∀ i, i < k → cb i = cb' i) : ptrs cb k = ptrs cb' k := by
  unfold ptrs
  refine List.map_congr_left fun i hi => ?_
  rw [h i (List.mem_range.1 hi)]
/-- Rows of different types lie in different blocks. -/
theorem own_ne {w : World} {base L b : Nat} {v : Value} {xs : List Value} {c : Array Value} {t : TypeId} (h : w.ownsRow base 83 1 v L xs) (hr : Row w b c t) (ht : t ≠ 83) : v.ownBlock ≠ some b := by
  rcases h.2 with ⟨rfl, _⟩ | ⟨g, cap, cur, rfl, _, hh, _⟩
  · simp [Value.ownBlock]
  · intro e
    simp [Value.ownBlock] at e
    subst e
    have h2 : w.heap[g]? = some (.cells c t (0, 0)) := hr
    rw [hh] at h2
    simp at h2
    exact ht h2.2.symm
theorem own_shape {w : World} {base L : Nat} {v : Value} {xs : List Value} {e : TypeId} (h : w.ownsRow base e 1 v L xs) : ∃ A cap, v = .slice A L cap := by
  rcases h.2 with ⟨rfl, rfl⟩ | ⟨g, cap, cur, rfl, _⟩
  · exact ⟨none, 0, rfl⟩
  · exact ⟨_, cap, rfl⟩
theorem Row.grownBy {w w' : World} {b : Nat} {c : Array Value} {t : TypeId} {o : Option Nat} (h : Row w b c t) (hg : w.grownBy w' o) (hn : o ≠ some b) : Row w' b c t := by
  have := hg.block b h.lt (fun e => hn e.symm)
  unfold Row at *
  rw [this]; exact h
theorem CoreAt.grownBy {w w' : World} {cb me pm : Nat} {st : Option (List Value)} {o : Option Nat} (h : CoreAt w cb me pm st) (hg : w.grownBy w' o) (hn : o ≠ some cb) : CoreAt w' cb me pm st := by
  obtain ⟨kp, km, hs, ha, hr⟩ := h
  exact ⟨kp, km, hs, ha, Row.grownBy hr hg hn⟩
theorem own_ge {w : World} {base L b : Nat} {v : Value} {xs : List Value} {e : TypeId} (h : w.ownsRow base e 1 v L xs) (hb : v.ownBlock = some b) : base ≤ b := by
  rcases h.2 with ⟨rfl, _⟩ | ⟨g, cap, cur, rfl, hg, _⟩
  · simp [Value.ownBlock] at hb
  · simp [Value.ownBlock] at hb; omega
theorem grown_none' {w w' : World} (h : Grows w w') : w.grownBy w' none := ⟨h.below.os, h.below.tape, h.below.output, h.size, fun i hi _ => h.get hi⟩
set_option maxRecDepth 100000 in
set_option maxHeartbeats 2000000 in
theorem machnew_ok (w : World) {N F : Nat} (hN : 1 ≤ N) (hN8 : N ≤ 8) (hF : 1 ≤ F) (hF2 : F ≤ 65536) :
    Calls Try.prog 8 #[.int .i64 N, .int .i64 F] w fun r w' => ∃ pm me cb, r = .returned (.tuple #[.pointer (some ⟨pm, 0, none⟩), .int .i64 0]) ∧ MachAt w' pm me N F cb (fun _ => none) ∧ Grows w w' ∧ w.heap.size ≤ pm ∧ (∀ i, i < N → w.heap.size ≤ cb i) := by
  have hmm := @run_makeMap Try.prog
  go_enter Try.func8, Try.ntmps8
  go_wp2_with fail
  refine (mnew_ok F hF hF2 w).mono ?_
  rintro _ w1 ⟨me, rfl, hm1, hg1, hme⟩
  go_wp2_with fail
  obtain ⟨W2, hW2⟩ : ∃ W2, W2 = w1.alloc (Obj.cells #[.pointer (some ⟨me, 0, none⟩), .slice none 0 0] 75) := ⟨_, rfl⟩
  obtain ⟨pm, hpm⟩ : ∃ b, b = w1.heap.size := ⟨_, rfl⟩
  rw [← hW2, ← hpm]
  have hr2 : Row W2 pm #[.pointer (some ⟨me, 0, none⟩), .slice none 0 0] 75 := by rw [hW2]; exact Row.new_at _ _ _ hpm
  have hg2 : Grows w W2 := by rw [hW2]; exact hg1.alloc _
  have hm2 : MemHd W2 me F := by rw [hW2]; exact hm1.grows ((Grows.refl _).alloc _)
  have hs2 : W2.heap.size = pm + 1 := by rw [hW2, hpm]; simp
  have HP := Lib.hid (show w.heap.size ≤ pm ∧ w.heap.size ≤ me ∧ me < pm by
    have := hg1.size
    obtain ⟨_, hr⟩ := hm1
    have := hr.lt
    omega)
  have HR2 := Lib.hid hr2
  have HG2 := Lib.hid hg2
  have HM2 := Lib.hid hm2
  have HS2 := Lib.hid hs2
  clear hW2 hpm hr2 hg2 hm2 hs2 hm1 hg1 hme
  go_loopw [29] (fun c wr => ∃ (k : Nat) (cb : Nat → Nat) (v : Value), k ≤ N ∧ c = .int .i64 k ∧ Row wr pm #[.pointer (some ⟨me, 0, none⟩), v] 75 ∧ wr.ownsRow W2.heap.size 83 1 v k (ptrs cb k) ∧ (∀ i, i < k → CoreAt wr (cb i) me pm none ∧ W2.heap.size ≤ cb i) ∧ (∀ i j, i < k → j < k → cb i = cb j → i = j) ∧ MemHd wr me F ∧ Chg [pm] W2 wr) (fun c _ => (N - intOf c).toNat)
  case atStart => exact ⟨0, fun _ => 0, _, by omega, rfl, HR2.out, World.ownsRow_nil _ _ _ _, fun i hi => by omega, fun i j hi => by omega, HM2.out, Chg.refl _ _⟩
  case round =>
    clear HR2 HM2
    obtain ⟨k, cb, v, hk, rfl, hrow, hown, hcs, hinj, hmem, hC⟩ := hrel
    by_cases hlt : k < N
    · have hcn := cnew_ok wr
      have HROW := Lib.hid hrow
      have HOWN := Lib.hid hown
      have HCS := Lib.hid hcs
      have HINJ := Lib.hid hinj
      have HMEM := Lib.hid hmem
      have HC := Lib.hid hC
      clear hrow hown hcs hinj hmem hC
      go_wp2_with fail
      refine hcn.mono ?_
      rintro _ w3 ⟨kp, rfl, hg3⟩
      have hrow3 := HROW.out.grows hg3
      have p0 : w3.cell? ⟨pm, 0, none⟩ = some (.pointer (some ⟨me, 0, none⟩)) := hrow3.cell 0
      have p1 : w3.cell? ⟨pm, 1, none⟩ = some v := hrow3.cell 1
      have lp := hrow3.lt
      clear hcn
      obtain ⟨w5, hw5⟩ : ∃ w5, w5 = ((w3.alloc (Obj.map #[] 0)).alloc (Obj.cells #[.pointer (some ⟨me, 0, none⟩), .pointer (some ⟨pm, 0, none⟩), .int .i64 0, .int .u64 0, .int .u64 0, .int .u64 0, .int .u64 0, .int .u64 0, .int .u64 0, .int .u64 0, .int .u64 0, .int .u64 0, .int .u64 0, .int .u64 0, .int .u64 0, .int .u64 0, .int .u64 0, .int .u64 0, .int .u64 0, .int .u64 0, .int .i64 0, .pointer none, .int .i64 0, .bool false, .pointer (some ⟨kp, 0, none⟩), .map (some w3.heap.size), .bool false, .int .u64 0] 88)).alloc (Obj.cells #[.pointer (some ⟨w3.heap.size + 1, 0, none⟩)] 83) := ⟨_, rfl⟩
      have hg5 : Grows w3 w5 := by rw [hw5]; exact (((Grows.refl _).alloc _).alloc _).alloc _
      have hg35 := hg3.trans hg5
      have hown5 := HOWN.out.kept (grown_none' hg35) (by cases v with | slice a _ _ => cases a <;> simp [Value.ownBlock] | _ => simp [Value.ownBlock])
      have hx5 : w5.cell? ⟨w3.heap.size + 1 + 1, 0, none⟩ = some (.pointer (some ⟨w3.heap.size + 1, 0, none⟩)) := by rw [hw5]; exact (Row.new_at (b := w3.heap.size + 1 + 1) _ #[Value.pointer (some ⟨w3.heap.size + 1, 0, none⟩)] 83 (by simp)).cell 0
      have hb5 : W2.heap.size ≤ w5.heap.size := by have := HC.out.size; have := hg35.size; omega
      have hcn5 : CoreAt w5 (w3.heap.size + 1) me pm none := by
        rw [hw5]
        exact ⟨kp, w3.heap.size, false, 0, (Row.new_at (b := w3.heap.size + 1) (w3.alloc (Obj.map #[] 0)) (coreA me pm cx0 false kp w3.heap.size false 0) 88 (by simp)).grows ((Grows.refl _).alloc _)⟩
      have H5 := Lib.hid hown5
      have HX5 := Lib.hid hx5
      have HB5 := Lib.hid hb5
      have HCN5 := Lib.hid hcn5
      have HG35 := Lib.hid hg35
      have HROW5 := Lib.hid (HROW.out.grows hg35)
      have HSZ := Lib.hid (show wr.heap.size ≤ w3.heap.size from hg3.size)
      clear hown5 hx5 hb5 hcn5 hg35 hg5 hg3 hrow3
      rw [hw5] at H5 HX5 HB5
      have HW5 := Lib.hid hw5
      clear hw5
      go_wp2_with (first
        | (at_builtin; refine wpList_app1p (by rfl) (.tmp 39) (.tmp 46) (by rfl) (by rfl) H5.out (by rfl) HX5.out (by omega) HB5.out ?_; intro v' w6 hown6 hgr6
           have hrow6 := Row.grownBy HROW5.out (HW5.out ▸ hgr6) (own_ne (HW5.out ▸ H5.out) HROW5.out (by decide))
           have e1 : w6.cell? ⟨pm, 1, none⟩ = some v := hrow6.cell 1
           have e2 := hrow6.frozen 1
           obtain ⟨A', cap', hv'⟩ := own_shape hown6
           subst hv'
           have HOWN6 := Lib.hid hown6
           have HGR6 := Lib.hid hgr6
           have HROW6 := Lib.hid hrow6
           clear hown6 hgr6 hrow6))
      have H5' : w5.ownsRow W2.heap.size 83 1 v k (ptrs cb k) := by rw [HW5.out]; exact H5.out
      have hgr : w5.grownBy w6 v.ownBlock := by rw [HW5.out]; exact HGR6.out
      obtain ⟨W7, hW7⟩ : ∃ W7, W7 = w6.setCell ⟨pm, 1, none⟩ (.slice A' (k + 1) cap') := ⟨_, rfl⟩
      have hp7 : Chg [pm] w6 W7 := by rw [hW7]; exact (Chg.refl _ _).setCell (Or.inl (by simp)) _ _
      have hsz := HS2.out
      have hcs7 : ∀ b, CoreAt w5 b me pm none → W2.heap.size ≤ b → CoreAt W7 b me pm none := fun b hb hge => by
        refine (CoreAt.grownBy hb hgr ?_).chg hp7 (by simp; omega)
        obtain ⟨_, _, _, _, hr⟩ := hb
        exact own_ne H5' hr (by decide)
      have hrow7 : Row W7 pm #[.pointer (some ⟨me, 0, none⟩), .slice A' (k + 1) cap'] 75 := by rw [hW7]; exact HROW6.out.put 1 _
      have hmem7 : MemHd W7 me F := by
        have hm5 := HMEM.out.grows HG35.out
        obtain ⟨q, hr⟩ := hm5
        exact MemHd.chg ⟨q, Row.grownBy hr hgr (own_ne H5' hr (by decide))⟩ hp7 (by simp; have := HP.out; omega)
      have hC7 : Chg [pm] W2 W7 := by
        refine Chg.trans (Chg.grownBy (HC.out.grows HG35.out) hgr (fun b hb => Or.inr (own_ge H5' hb))) hp7
      have hown7 : W7.ownsRow W2.heap.size 83 1 (.slice A' (k + 1) cap') (k + 1) (ptrs cb k ++ [.pointer (some ⟨w3.heap.size + 1, 0, none⟩)]) := by
        refine HOWN6.out.kept (hp7.grownBy' (b := pm) (by simp)) (Or.inr (own_ne HOWN6.out HROW6.out (by decide)))
      rw [← hW7]
      refine ⟨⟨k + 1, fun i => if i = k then w3.heap.size + 1 else cb i, _, by omega, by simp, hrow7, ?_, fun i hi => ?_, fun i j hi hj hij => ?_, hmem7, hC7⟩, by simp [intOf]; omega⟩
      · rw [ptrs_succ, ptrs_congr (cb' := cb) (fun i hi => if_neg (by omega))]
        simp only [if_pos]
        exact hown7
      · by_cases e : i = k
        · subst e
          simp only [if_pos]
          have : W2.heap.size ≤ w3.heap.size + 1 := by have := HC.out.size; have := HSZ.out; omega
          exact ⟨hcs7 _ HCN5.out this, this⟩
        · simp only [if_neg e]
          obtain ⟨h1, h2⟩ := HCS.out i (by omega)
          exact ⟨hcs7 _ (h1.chg (S := []) (Chg.of_grows HG35.out) (by simp)) h2, h2⟩
      · have hlt' : ∀ i, i < k → cb i < w3.heap.size + 1 := fun i hi => by
          have := (HCS.out i hi).1.lt
          have := HSZ.out
          omega
        by_cases ei : i = k
        · by_cases ej : j = k
          · omega
          · simp only [if_pos ei, if_neg ej] at hij
            have := hlt' j (by omega)
            omega
        · by_cases ej : j = k
          · simp only [if_neg ei, if_pos ej] at hij
            have := hlt' i (by omega)
            omega
          · simp only [if_neg ei, if_neg ej] at hij
            exact HINJ.out i j (by omega) (by omega) hij
    · have hkN : k = N := by omega
      subst hkN
      have hM : MachAt wr pm me k F cb (fun _ => none) := by
        rcases hown.2 with ⟨_, h0⟩ | ⟨g, cap, cur, rfl, hgb, hh, hcap, hmax, hsz, htk⟩
        · omega
        · have hr : Row wr g cur 83 := hh
          refine ⟨⟨g, cap, cur, hrow, hr, fun i hi => ?_⟩, hmem, fun i hi => (hcs i hi).1, hinj, fun i hi => ?_⟩
          · have h1 : (cur.toList.take (k * 1))[i]? = (ptrs cb k)[i]? := by rw [htk]
            rw [List.getElem?_take, if_pos (by omega)] at h1
            rw [← Array.getElem?_toList, h1]
            unfold ptrs
            rw [List.getElem?_map, List.getElem?_range hi]
            rfl
          · have := (hcs i hi).2
            have := HS2.out
            have := HP.out
            omega
      have HM := Lib.hid hM
      have HGF := Lib.hid (hC.to_grows HG2.out (by have := HP.out; simp; omega))
      have HCB : Hid (∀ i, i < k → w.heap.size ≤ cb i) := Lib.hid fun i hi => by
        have := (hcs i hi).2
        have := HS2.out
        have := HP.out
        omega
      clear hM hcs hinj hmem hC hown hrow
      go_wp2_with fail
      go_ret2
      exact ⟨pm, me, cb, rfl, HM.out, HGF.out, HP.out.1, HCB.out⟩
end Go.Proofs.Ytilefidnjjbboaa
