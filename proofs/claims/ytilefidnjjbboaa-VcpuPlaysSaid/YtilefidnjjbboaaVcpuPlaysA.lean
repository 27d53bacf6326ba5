/- VcpuPlays: an act; the beginning; loads in drawn regions. -/
import Derived.Test.YtilefidnjjbboaaVcpuR
namespace Go
theorem quiet_load_mid {P : Program} {C : World → Prop} {o : Oper} {a : Act} {K : Act → Prop} (ty : TypeId) (x : Operand) (ho : o.op = .load ty x) (b k : Nat) (hx : a.eval x = .pointer (some ⟨b, k, none⟩)) (cs : List Value) (d : TypeDesc)
    (hc : ∀ w, C w → w.rangeAt b k cs) (hu : P.underlying ty = some d) (hd : d.isRow = true) (hi : (P.info? ty).map (·.size) = some cs.length) (hk : K (a.put o.dst (.agg cs.toArray))) : o.quiet P a C K := by
  refine ⟨.agg cs.toArray, fun w hw => ?_, hk⟩
  unfold Oper.quietAt execOp
  simp only [ho, hx, Instr.loadAt, Instr.sureAddr, Sem.run_bind, Sem.run_pure, Result.andThen_ok, run_loadVar_mid w b k ty cs d (hc w hw) hu hd hi]
  exact ⟨rfl, rfl⟩
theorem wpStill_load_mid {P : Program} {ops : Array Oper} {w : World} {Q : Act → Prop} {a : Act} {o : Oper} {rest : List Oper} (hw : Region.wanted o (yielded ops a.tmps) = true) (ty : TypeId) (x : Operand) (ho : o.op = .load ty x) (b k : Nat) (hx : a.eval x = .pointer (some ⟨b, k, none⟩)) (cs : List Value) (d : TypeDesc)
    (hc : w.rangeAt b k cs) (hu : P.underlying ty = some d) (hd : d.isRow = true) (hi : (P.info? ty).map (·.size) = some cs.length) (h : wpStill P ops w Q rest (a.put o.dst (.agg cs.toArray))) : wpStill P ops w Q (o :: rest) a := by
  show if _ then _ else _
  rw [if_pos hw]
  unfold Oper.still execOp
  simp only [ho, hx, Instr.loadAt, Instr.sureAddr, Sem.run_bind, Sem.run_pure, Result.andThen_ok, run_loadVar_mid w b k ty cs d hc hu hd hi]
  exact ⟨rfl, h⟩
end Go
namespace Go.Proofs.Ytilefidnjjbboaa
open Go Go.RowKit
set_option linter.unusedSimpArgs false
set_option linter.unusedVariables false
section
variable {H : Type} {enc : TypeId × Value → H}
abbrev actT : List TypeId := [3, 3, 3, 29, 29, 29, 29, 29, 29, 29, 29, 29, 29, 29, 29, 29, 29, 29, 29, 29, 3]
def actL (ki wh co : Int) (R : List Value) : List Value := [Value.int .i64 ki, Value.int .i64 wh, Value.int .i64 co] ++ R
theorem act_at {W : World} {A : Option Addr} {n : Nat} {X : Nat → List Value} (hX : SliceIs2 enc Try.prog W actT A n X) {i : Nat} (hi : i < n) :
    ∃ b o, A = some ⟨b, o, none⟩ ∧ b < W.heap.size ∧ ∃ (K Wh C : Int) (x : Nat → Int) (pc m : Int), W.rangeAt b (o + i * 21) (actL K Wh C (regV x pc m)) := by
  obtain ⟨b, o, hA, hb, hL, hc⟩ := hX i hi
  obtain ⟨c0, cs0, e0, l0, hL⟩ := hL.cons
  obtain ⟨c1, cs1, rfl, l1, hL⟩ := hL.cons
  obtain ⟨c2, cs2, rfl, l2, hL⟩ := hL.cons
  obtain ⟨ns, cs3, rfl, hl, _, hL⟩ := Leafs2.ints (n := 16) Try.underlying29 (show Leafs2 enc Try.prog W (List.replicate 16 29 ++ [29, 3]) cs2 from hL)
  obtain ⟨c4, cs4, rfl, l4, hL⟩ := hL.cons
  obtain ⟨c5, cs5, rfl, l5, hL⟩ := hL.cons
  obtain rfl := hL.nil
  obtain ⟨K, rfl, _⟩ := l0.int Try.underlying3
  obtain ⟨Wh, rfl, _⟩ := l1.int Try.underlying3
  obtain ⟨C, rfl, _⟩ := l2.int Try.underlying3
  obtain ⟨pc, rfl, _⟩ := l4.int Try.underlying29
  obtain ⟨m, rfl, _⟩ := l5.int Try.underlying3
  have e : X i = actL K Wh C (regV (fun i => ns.getD i 0) pc m) := by
    rw [e0]
    match ns, hl with
    | [y0, y1, y2, y3, y4, y5, y6, y7, y8, y9, y10, y11, y12, y13, y14, y15], _ => rfl
  have hl21 : (actL K Wh C (regV (fun i => ns.getD i 0) pc m)).length = 21 := rfl
  refine ⟨b, o, hA, hb, K, Wh, C, (fun i => ns.getD i 0), pc, m, fun j v hv => ?_⟩
  have hj : j < 21 := by
    have := (List.getElem?_eq_some_iff.1 hv).1
    rwa [hl21] at this
  have h := hc j hj
  rw [e, hv] at h
  rw [Nat.add_assoc]
  exact h
end
abbrev zAct : Array Value := #[.int .i64 0, .int .i64 0, .int .i64 0, .int .u64 0, .int .u64 0, .int .u64 0, .int .u64 0, .int .u64 0, .int .u64 0, .int .u64 0, .int .u64 0, .int .u64 0, .int .u64 0, .int .u64 0, .int .u64 0, .int .u64 0, .int .u64 0, .int .u64 0, .int .u64 0, .int .u64 0, .int .i64 0]
theorem actL_size (K Wh C : Int) (x : Nat → Int) (pc m : Int) : (actL K Wh C (regV x pc m)).toArray.size = 21 := rfl
theorem actL_one (K Wh C : Int) (x : Nat → Int) (pc m : Int) : (actL K Wh C (regV x pc m)).toArray.all (·.oneCell') = true := by
  simp [actL, regV, Value.oneCell']
theorem act_cells {w : World} {b : Nat} {K Wh C : Int} {x : Nat → Int} {pc m : Int} {t : TypeId} (h : Row w b (actL K Wh C (regV x pc m)).toArray t) :
    w.cell? ⟨b, 0, none⟩ = some (.int .i64 K) ∧ w.cell? ⟨b, 1, none⟩ = some (.int .i64 Wh) ∧ w.cell? ⟨b, 2, none⟩ = some (.int .i64 C) ∧ w.cell? ⟨b, 20, none⟩ = some (.int .i64 m) ∧ w.rangeAt b 3 (regV x pc m) :=
  ⟨h.cell 0, h.cell 1, h.cell 2, h.cell 20, Row.range h (fun j v hv => by
    have := mid_get [Value.int .i64 K, Value.int .i64 Wh, Value.int .i64 C] (regV x pc m) [] j v hv
    simpa [actL] using this)⟩
/-- Both are new. -/
theorem play_new {w : World} {pm me bu : Nat} {cb : Nat → Nat} {v0 v1 f0 f1 r0 r1 : Nat} {g0 g1 ix : Int} (hM : MachAt w pm me 2 2 cb (fun _ => none)) (p0 p1 : Int) (hv0 : VcAt w v0 f0 g0 ix 1 (-1) (regs1 p0) (updR (fun _ => 0) 11 ix)) (hv1 : VcAt w v1 f1 g1 ix 1 (-1) (regs1 p1) (updR (fun _ => 0) 11 ix))
    (hr0 : RfAt w r0 g0 ix 1 (-1) (regs1 p0)) (hr1 : RfAt w r1 g1 ix 1 (-1) (regs1 p1)) (hu : Row w bu #[.int .i64 0, .int .i64 0] 40) (hv : v0 ≠ v1) (hf : f0 ≠ f1) (hr : r0 ≠ r1) (hg0 : 0 ≤ g0) (hg1 : 0 ≤ g1) :
    PlayAt w pm me cb (upd (fun _ => v1) 0 v0) (upd (fun _ => f1) 0 f0) (upd (fun _ => r1) 0 r0) bu (upd (fun _ => g1) 0 g0) ix (fun _ => none) (fun _ => 1) (fun _ => -1) (upd (fun _ => regs1 p1) 0 (regs1 p0)) (fun _ => updR (fun _ => 0) 11 ix) (fun _ => 0) := by
  refine ⟨hM, fun k hk => ?_, fun k hk => ?_, hu, fun k hk => Or.inr ⟨by decide, rfl⟩, fun c hc => Or.inr ⟨rfl, rfl⟩, fun j k hj hk hjk => ?_, fun k hk => ?_⟩
  · rcases (show k = 0 ∨ k = 1 by omega) with rfl | rfl
    · exact hv0
    · exact hv1
  · rcases (show k = 0 ∨ k = 1 by omega) with rfl | rfl
    · exact hr0
    · exact hr1
  · rcases (show j = 0 ∨ j = 1 by omega) with rfl | rfl <;> rcases (show k = 0 ∨ k = 1 by omega) with rfl | rfl
    · exact absurd rfl hjk
    · exact ⟨hv, hf, hr⟩
    · exact ⟨hv.symm, hf.symm, hr.symm⟩
    · exact absurd rfl hjk
  · rcases (show k = 0 ∨ k = 1 by omega) with rfl | rfl
    · exact hg0
    · exact hg1
theorem turned_gen {w w' : World} {vb fb : Nat} {g ix s co z : Int} {R : List Value} {r : Nat → Int} {hit : Prop} [Decidable hit] {e : Ending} {E S' : Int} (h : Turned w w' vb fb g ix s co z R r hit e) (hE : E = if hit then 0 else 21) (hS : S' = if hit then z else s) :
    e = .returned (.int .i64 E) ∧ VcAt w' vb fb g ix S' co R r ∧ Chg [vb] w w' := by
  rw [hE, hS]; exact ⟨h.1, h.2.1, h.2.2.1⟩
theorem rturned_gen {w w' : World} {rb : Nat} {g ix s co z : Int} {R : List Value} {hit : Prop} [Decidable hit] {e : Ending} {E S' : Int} (h : RTurned w w' rb g ix s co z R hit e) (hE : E = if hit then 0 else 21) (hS : S' = if hit then z else s) :
    e = .returned (.int .i64 E) ∧ RfAt w' rb g ix S' co R ∧ Chg [rb] w w' := by
  rw [hE, hS]; exact ⟨h.1, h.2.1, h.2.2⟩
theorem block_gen {w : World} {vb fb : Nat} {g ix s co : Int} {R : List Value} {r : Nat → Int} (h : VcAt w vb fb g ix s co R r) {E S' : Int} (hE : E = if s = 1 then 0 else 21) (hS : S' = if s = 1 then 3 else s) :
    Calls Try.prog 14 #[.pointer (some ⟨vb, 0, none⟩)] w fun e w' => e = .returned (.int .i64 E) ∧ VcAt w' vb fb g ix S' co R r ∧ Chg [vb] w w' :=
  (block_any h).mono fun _ _ ht => turned_gen ht hE hS
theorem wake_gen {w : World} {vb fb : Nat} {g ix s co : Int} {R : List Value} {r : Nat → Int} (h : VcAt w vb fb g ix s co R r) {E S' : Int} (hE : E = if s = 3 then 0 else 21) (hS : S' = if s = 3 then 1 else s) :
    Calls Try.prog 16 #[.pointer (some ⟨vb, 0, none⟩)] w fun e w' => e = .returned (.int .i64 E) ∧ VcAt w' vb fb g ix S' co R r ∧ Chg [vb] w w' :=
  (wake_any h).mono fun _ _ ht => turned_gen ht hE hS
theorem stop_gen {w : World} {vb fb : Nat} {g ix s co : Int} {R : List Value} {r : Nat → Int} (h : VcAt w vb fb g ix s co R r) {E S' : Int} (hE : E = if s = 1 ∨ s = 3 then 0 else 21) (hS : S' = if s = 1 ∨ s = 3 then 4 else s) :
    Calls Try.prog 17 #[.pointer (some ⟨vb, 0, none⟩)] w fun e w' => e = .returned (.int .i64 E) ∧ VcAt w' vb fb g ix S' co R r ∧ Chg [vb] w w' :=
  (stop_any h).mono fun _ _ ht => turned_gen ht hE hS
theorem rset0_gen {w : World} {rb : Nat} {g ix s co : Int} {R : List Value} (h : RfAt w rb g ix s co R) {E S' : Int} (hE : E = if s = 1 then 0 else 21) (hS : S' = if s = 1 then 3 else s) :
    Calls Try.prog 15 #[.pointer (some ⟨rb, 0, none⟩), .int .i64 0] w fun e w' => e = .returned (.int .i64 E) ∧ RfAt w' rb g ix S' co R ∧ Chg [rb] w w' :=
  (rset0 h).mono fun _ _ ht => rturned_gen ht hE hS
theorem rset1_gen {w : World} {rb : Nat} {g ix s co : Int} {R : List Value} (h : RfAt w rb g ix s co R) {E S' : Int} (hE : E = if s = 3 then 0 else 21) (hS : S' = if s = 3 then 1 else s) :
    Calls Try.prog 15 #[.pointer (some ⟨rb, 0, none⟩), .int .i64 1] w fun e w' => e = .returned (.int .i64 E) ∧ RfAt w' rb g ix S' co R ∧ Chg [rb] w w' :=
  (rset1 h).mono fun _ _ ht => rturned_gen ht hE hS
theorem rset2_gen {w : World} {rb : Nat} {g ix s co : Int} {R : List Value} (h : RfAt w rb g ix s co R) {E S' : Int} (hE : E = if s = 1 ∨ s = 3 then 0 else 21) (hS : S' = if s = 1 ∨ s = 3 then 4 else s) :
    Calls Try.prog 15 #[.pointer (some ⟨rb, 0, none⟩), .int .i64 2] w fun e w' => e = .returned (.int .i64 E) ∧ RfAt w' rb g ix S' co R ∧ Chg [rb] w w' :=
  (rset2 h).mono fun _ _ ht => rturned_gen ht hE hS
section
variable {w w' : World} {pm me bu : Nat} {cb v f r : Nat → Nat} {g : Nat → Int} {ix : Int} {st : Nat → Option (List Value)} {s co : Nat → Int} {R : Nat → List Value} {rf : Nat → Nat → Int} {u : Nat → Int}
theorem PlayAt.grow' (h : PlayAt w pm me cb v f r bu g ix st s co R rf u) : PlayAt w.drew pm me cb v f r bu g ix st s co R rf u := h.grows ((Grows.refl _).drew)
theorem Sl.drew {b16 b17 : Nat} (h : Sl w v r b16 b17) : Sl w.drew v r b16 b17 := h.grows ((Grows.refl _).drew)
/-- Behind the first of the two calls. -/
def Mid1 (w w6 : World) (v f r : Nat → Nat) (g : Nat → Int) (ix : Int) (s co : Nat → Int) (R : Nat → List Value) (rf : Nat → Nat → Int) (b16 b17 k : Nat) (S' : Int) : Prop :=
  VcAt w6 (v k) (f k) (g k) ix S' (co k) (R k) (rf k) ∧ Chg [v k] w w6 ∧ Sl w6 v r b16 b17 ∧ RfAt w6 (r k) (g k) ix (s k) (co k) (R k)
theorem PlayAt.mid1 (h : PlayAt w pm me cb v f r bu g ix st s co R rf u) {k b16 b17 : Nat} (hk : k < 2) (hs : Sl w v r b16 b17) {fn : FuncId} {args : Array Value} {E S' : Int} (hc : Calls Try.prog fn args w fun e w' => e = .returned (.int .i64 E) ∧ VcAt w' (v k) (f k) (g k) ix S' (co k) (R k) (rf k) ∧ Chg [v k] w w') :
    Calls Try.prog fn args w fun e w6 => e = .returned (.int .i64 E) ∧ Mid1 w w6 v f r g ix s co R rf b16 b17 k S' := by
  refine hc.mono ?_
  rintro e w6 ⟨he, hV6, hC6⟩
  exact ⟨he, hV6, hC6, h.sl hk (hC6.weaken (by simp)) hs, (h.rv k hk).chg hC6 (by simp; exact (h.apart hk).1)⟩
def Mid2 (W w7 : World) (pm me : Nat) (cb v f r : Nat → Nat) (bu : Nat) (g : Nat → Int) (ix : Int) (b16 b17 : Nat) : Prop :=
  (∃ st s co R rf u, PlayAt w7 pm me cb v f r bu g ix st s co R rf u) ∧ Sl w7 v r b16 b17 ∧ Grows W w7
theorem PlayAt.mid2 (h : PlayAt w pm me cb v f r bu g ix st s co R rf u) {k b16 b17 : Nat} {w6 W : World} (hk : k < 2) (hs : Sl w v r b16 b17) (hb : Beyond W cb v f r bu) (hg : Grows W w) {fn : FuncId} {args : Array Value} {E S' : Int} (hS : S' = s k ∨ (s k ≠ 2 ∧ S' ≠ 2)) (hm : Mid1 w w6 v f r g ix s co R rf b16 b17 k S') (hc : Calls Try.prog fn args w6 fun e w' => e = .returned (.int .i64 E) ∧ RfAt w' (r k) (g k) ix S' (co k) (R k) ∧ Chg [r k] w6 w') :
    Calls Try.prog fn args w6 fun e w7 => e = .returned (.int .i64 E) ∧ Mid2 W w7 pm me cb v f r bu g ix b16 b17 := by
  refine hc.mono ?_
  rintro e w7 ⟨he, hR7, hC7⟩
  have ht := h.turned (e1 := e) (e2 := e) hk hS hm.1 hm.2.1 hR7 hC7
  obtain ⟨⟨s', hs'⟩, hct⟩ := ht
  exact ⟨he, ⟨_, _, _, _, _, _, hs'⟩, h.sl hk hct hs, hb.grows hk hct hg⟩
theorem PlayAt.a0 (h : PlayAt w pm me cb v f r bu g ix st s co R rf u) {k b16 b17 : Nat} (hk : k < 2) (hs : Sl w v r b16 b17) {E S' : Int} (hE : E = if s k = 1 then 0 else 21) (hS : S' = if s k = 1 then 3 else s k) :
    Calls Try.prog 14 #[.pointer (some ⟨v k, 0, none⟩)] w fun e w6 => e = .returned (.int .i64 E) ∧ Mid1 w w6 v f r g ix s co R rf b16 b17 k S' := h.mid1 hk hs (block_gen (h.vc k hk) hE hS)
theorem PlayAt.b0 (h : PlayAt w pm me cb v f r bu g ix st s co R rf u) {k b16 b17 : Nat} {w6 W : World} (hk : k < 2) (hs : Sl w v r b16 b17) (hb : Beyond W cb v f r bu) (hg : Grows W w) {E S' : Int} (hSV : S' = s k ∨ (s k ≠ 2 ∧ S' ≠ 2)) (hm : Mid1 w w6 v f r g ix s co R rf b16 b17 k S') (hE : E = if s k = 1 then 0 else 21) (hS : S' = if s k = 1 then 3 else s k) :
    Calls Try.prog 15 #[.pointer (some ⟨r k, 0, none⟩), .int .i64 0] w6 fun e w7 => e = .returned (.int .i64 E) ∧ Mid2 W w7 pm me cb v f r bu g ix b16 b17 := h.mid2 hk hs hb hg hSV hm (rset0_gen hm.2.2.2 hE hS)
theorem PlayAt.a1 (h : PlayAt w pm me cb v f r bu g ix st s co R rf u) {k b16 b17 : Nat} (hk : k < 2) (hs : Sl w v r b16 b17) {E S' : Int} (hE : E = if s k = 3 then 0 else 21) (hS : S' = if s k = 3 then 1 else s k) :
    Calls Try.prog 16 #[.pointer (some ⟨v k, 0, none⟩)] w fun e w6 => e = .returned (.int .i64 E) ∧ Mid1 w w6 v f r g ix s co R rf b16 b17 k S' := h.mid1 hk hs (wake_gen (h.vc k hk) hE hS)
theorem PlayAt.b1 (h : PlayAt w pm me cb v f r bu g ix st s co R rf u) {k b16 b17 : Nat} {w6 W : World} (hk : k < 2) (hs : Sl w v r b16 b17) (hb : Beyond W cb v f r bu) (hg : Grows W w) {E S' : Int} (hSV : S' = s k ∨ (s k ≠ 2 ∧ S' ≠ 2)) (hm : Mid1 w w6 v f r g ix s co R rf b16 b17 k S') (hE : E = if s k = 3 then 0 else 21) (hS : S' = if s k = 3 then 1 else s k) :
    Calls Try.prog 15 #[.pointer (some ⟨r k, 0, none⟩), .int .i64 1] w6 fun e w7 => e = .returned (.int .i64 E) ∧ Mid2 W w7 pm me cb v f r bu g ix b16 b17 := h.mid2 hk hs hb hg hSV hm (rset1_gen hm.2.2.2 hE hS)
theorem PlayAt.a2 (h : PlayAt w pm me cb v f r bu g ix st s co R rf u) {k b16 b17 : Nat} (hk : k < 2) (hs : Sl w v r b16 b17) {E S' : Int} (hE : E = if s k = 1 ∨ s k = 3 then 0 else 21) (hS : S' = if s k = 1 ∨ s k = 3 then 4 else s k) :
    Calls Try.prog 17 #[.pointer (some ⟨v k, 0, none⟩)] w fun e w6 => e = .returned (.int .i64 E) ∧ Mid1 w w6 v f r g ix s co R rf b16 b17 k S' := h.mid1 hk hs (stop_gen (h.vc k hk) hE hS)
theorem PlayAt.b2 (h : PlayAt w pm me cb v f r bu g ix st s co R rf u) {k b16 b17 : Nat} {w6 W : World} (hk : k < 2) (hs : Sl w v r b16 b17) (hb : Beyond W cb v f r bu) (hg : Grows W w) {E S' : Int} (hSV : S' = s k ∨ (s k ≠ 2 ∧ S' ≠ 2)) (hm : Mid1 w w6 v f r g ix s co R rf b16 b17 k S') (hE : E = if s k = 1 ∨ s k = 3 then 0 else 21) (hS : S' = if s k = 1 ∨ s k = 3 then 4 else s k) :
    Calls Try.prog 15 #[.pointer (some ⟨r k, 0, none⟩), .int .i64 2] w6 fun e w7 => e = .returned (.int .i64 E) ∧ Mid2 W w7 pm me cb v f r bu g ix b16 b17 := h.mid2 hk hs hb hg hSV hm (rset2_gen hm.2.2.2 hE hS)
theorem EntersP.us {k : Nat} {e : Ending} (h : PlayAt w pm me cb v f r bu g ix st s co R rf u) (hk : k < 2) (he : EntersP w w' pm me cb v f r bu g ix st s co R rf u k e) : Row w' bu #[.int .i64 (u 0), .int .i64 (u 1)] 40 := by
  have hap := h.apart hk
  rcases he.2 with hg | ⟨c, hc, _, _, _, _, _, _, hC⟩
  · exact h.us.grows hg
  · exact h.us.chg hC (by simp; exact ⟨hap.2.2.2.1, fun e => hap.2.2.1 e.symm, fun e => (hap.2.2.2.2.2.2 c hc).2.2.2 e.symm⟩)
theorem act3_cells {b16 b17 b20 k : Nat} {K Wh C : Int} {x : Nat → Int} {pc m u0 u1 : Int} (hS : Sl w v r b16 b17) (hk : k < 2) (hR : Row w b20 (actL K Wh C (regV x pc m)).toArray 45) (hu : Row w bu #[.int .i64 u0, .int .i64 u1] 40) :
    w.cell? ⟨b16, k, none⟩ = some (.pointer (some ⟨v k, 0, none⟩)) ∧ w.cell? ⟨b17, k, none⟩ = some (.pointer (some ⟨r k, 0, none⟩)) ∧ w.cell? ⟨b20, 2, none⟩ = some (.int .i64 C) ∧ w.cell? ⟨bu, 0, none⟩ = some (.int .i64 u0) ∧ w.cell? ⟨bu, 1, none⟩ = some (.int .i64 u1) :=
  ⟨(hS.at hk).1, (hS.at hk).2, (act_cells hR).2.2.1, hu.cell 0, hu.cell 1⟩
/-- Behind enters. -/
def Mid3 (W w6 : World) (pm me : Nat) (cb v f r : Nat → Nat) (bu : Nat) (g : Nat → Int) (ix : Int) (b16 b17 b20 k : Nat) (L : Array Value) (u0 u1 : Int) : Prop :=
  Sl w6 v r b16 b17 ∧ Row w6 b20 L 45 ∧ Row w6 bu #[.int .i64 u0, .int .i64 u1] 40 ∧
  ((∃ s' : Int, s' ≠ 2 ∧ w6.cell? ⟨r k, 2, none⟩ = some (.int .i64 s') ∧ Mid2 W w6 pm me cb v f r bu g ix b16 b17) ∨
   ∃ c : Nat, c < 2 ∧ w6.cell? ⟨r k, 2, none⟩ = some (.int .i64 2) ∧ w6.cell? ⟨r k, 3, none⟩ = some (.int .i64 c) ∧ Mid2 W (w6.setCell ⟨bu, c, none⟩ (.int .i64 (1 + k))) pm me cb v f r bu g ix b16 b17)
theorem PlayAt.enters (h : PlayAt w pm me cb v f r bu g ix st s co R rf u) {k b16 b17 b20 : Nat} {W : World} {L : Array Value} (hk : k < 2) (hs : Sl w v r b16 b17) (hR : Row w b20 L 45) (hb : Beyond W cb v f r bu) (hg : Grows W w) (core : Int) :
    Calls Try.prog 18 #[.pointer (some ⟨pm, 0, none⟩), .pointer (some ⟨v k, 0, none⟩), .pointer (some ⟨r k, 0, none⟩), .int .i64 core, .agg #[.int .i64 (u 0), .int .i64 (u 1)]] w fun e w6 => e = .returned (.bool true) ∧ Mid3 W w6 pm me cb v f r bu g ix b16 b17 b20 k L (u 0) (u 1) := by
  refine (enters_any h hk core).mono ?_
  intro e w6 hE
  have hC := hE.chg
  have hs6 := h.sl hk hC hs
  refine ⟨hE.1, hs6, h.keep hk hC hR (by decide), hE.us h hk, ?_⟩
  rcases hE.2 with hg6 | ⟨c, hc, h1, h2, h3, hM, hV, hRf, hC6⟩
  · have h6 := h.grows hg6
    obtain ⟨_, _, c2, c3⟩ := (h6.rv k hk).cells
    by_cases h2 : s k = 2
    · right
      rcases h.run k hk with ⟨_, c, hc, hco, _, hu⟩ | ⟨hn, _⟩
      · rw [h2] at c2
        rw [hco] at c3
        obtain ⟨ha, hca⟩ := h6.again hk hc hu
        exact ⟨c, hc, c2, c3, ha, h6.sl hk hca hs6, hb.grows hk hca (hg.trans hg6)⟩
      · exact absurd h2 hn
    · exact Or.inl ⟨s k, h2, c2, ⟨_, _, _, _, _, _, h6⟩, hs6, hg.trans hg6⟩
  · obtain ⟨_, _, c2, c3⟩ := hRf.cells
    obtain ⟨ha, hca⟩ := h.entered hk hc h2 hM hV hRf hC6
    exact Or.inr ⟨c, hc, c2, c3, ha, h.sl hk hca hs, hb.grows hk hca hg⟩
/-- Behind Leave. -/
theorem PlayAt.leaves (h : PlayAt w pm me cb v f r bu g ix st s co R rf u) {k b16 b17 : Nat} {W : World} (hk : k < 2) (hs : Sl w v r b16 b17) (hb : Beyond W cb v f r bu) (hg : Grows W w) (h2 : s k = 2) :
    Calls Try.prog 11 #[.pointer (some ⟨v k, 0, none⟩), .pointer (some ⟨pm, 0, none⟩)] w fun e w6 => e = .returned (.int .i64 0) ∧ ∃ c : Nat, c < 2 ∧ Sl w6 v r b16 b17 ∧ Row w6 bu #[.int .i64 (u 0), .int .i64 (u 1)] 40 ∧ RfAt w6 (r k) (g k) ix 2 c (R k) ∧
      Mid2 W (((w6.setCell ⟨bu, c, none⟩ (.int .i64 0)).setCell ⟨r k, 2, none⟩ (.int .i64 1)).setCell ⟨r k, 3, none⟩ (.int .i64 (-1))) pm me cb v f r bu g ix b16 b17 := by
  rcases h.run k hk with ⟨_, c, hc, hco, hst, hu⟩ | ⟨hn, _⟩
  · obtain ⟨bb, hbb, hi⟩ := eql_owner (g k) (g k) (f k) (f k)
    have : bb = true := hi.2 ⟨rfl, rfl⟩
    subst this
    have hv := h.vc k hk
    rw [h2, hco] at hv
    refine (leave_ok h.mach (by omega) (by omega) hc hst hv.reg hv hv.file hbb).mono ?_
    rintro e w6 ⟨he, hM, hV, hC⟩
    have hap := h.apart hk
    have hC' : Chg [v k, r k, bu, cb 0, cb 1, f k] w w6 := hC.weaken (by
      rcases (show c = 0 ∨ c = 1 by omega) with rfl | rfl <;> simp)
    obtain ⟨ha, hca⟩ := h.left hk hc hu hM hV hC h2 hco
    have hr := (h.rv k hk).chg hC (by simp; exact ⟨fun e => (hap.2.2.2.2.2.2 c hc).2.2.1 e.symm, hap.1⟩)
    rw [h2, hco] at hr
    exact ⟨he, c, hc, h.sl hk hC' hs, h.us.chg hC (by simp; exact ⟨fun e => (hap.2.2.2.2.2.2 c hc).2.2.2 e.symm, hap.2.2.2.1⟩), hr, ha, h.sl hk hca hs, hb.grows hk hca hg⟩
  · exact absurd h2 hn
theorem Sl.apart {b16 b17 : Nat} (h : Sl w v r b16 b17) {b : Nat} {C : Array Value} {t : TypeId} (hr : Row w b C t) (ht : t ≠ 34) : b17 ≠ b := fun e => by
  have h2 := h.2
  rw [e] at h2
  exact ht (row_type hr h2)
end
theorem rfL_puts {g ix st co : Int} {R R' : List Value} (h : RegL R) (h' : RegL R') : putA (rfL g ix st co R).toArray 4 R' = (rfL g ix st co R').toArray := by
  have := putA_mid [Value.int .i64 g, Value.int .i64 ix, Value.int .i64 st, Value.int .i64 co] R [] R' (by rw [h.len, h'.len])
  simpa [rfL] using this
theorem rfL_set {g ix st co : Int} (x : Nat → Int) (pc m m' : Int) : ((rfL g ix st co (regV x pc m)).toArray.setIfInBounds 4 (.int .u64 0)).setIfInBounds 21 (.int .i64 m') = (rfL g ix st co (regV (updR x 0 0) pc m')).toArray := rfl
theorem rfL_size {g ix st co : Int} {R : List Value} (h : RegL R) : (rfL g ix st co R).toArray.size = 22 := by
  simp [rfL, h.len]
theorem RfAt.setR {w : World} {rb : Nat} {g ix st co : Int} {R R' : List Value} (h : RfAt w rb g ix st co R) (h' : RegL R') : RfAt (w.setCells rb 4 R') rb g ix st co R' := by
  refine ⟨?_, h'⟩
  rw [← rfL_puts h.reg h']
  exact Row.puts _ _ _ _ h.row
theorem RfAt.put421 {w w' : World} {rb : Nat} {g ix st co : Int} {x : Nat → Int} {pc m : Int} (m' : Int) (h : RfAt w rb g ix st co (regV x pc m)) (hg : Grows (w.setCell ⟨rb, 4, none⟩ (.int .u64 0)) w') : RfAt (w'.setCell ⟨rb, 21, none⟩ (.int .i64 m')) rb g ix st co (regV (updR x 0 0) pc m') := by
  refine ⟨?_, regV_ok _ _ _⟩
  rw [← rfL_set x pc m m']
  exact ((h.row.put 4 _).grows hg).put 21 _
section
variable {w w' : World} {pm me bu : Nat} {cb v f r : Nat → Nat} {g : Nat → Int} {ix : Int} {st : Nat → Option (List Value)} {s co : Nat → Int} {R : Nat → List Value} {rf : Nat → Nat → Int} {u : Nat → Int}
/-- Behind SetRegs and the reference's stores. -/
theorem PlayAt.sets (h : PlayAt w pm me cb v f r bu g ix st s co R rf u) {k b16 b17 : Nat} {W w6 V6 V9 : World} {x : Nat → Int} {pc m m' : Int} (hk : k < 2) (hs : Sl w v r b16 b17) (hb : Beyond W cb v f r bu) (hg : Grows W w) (h2 : s k ≠ 2)
    (hV : VcAt w6 (v k) (f k) (g k) ix (s k) (co k) (regV (updR x 0 0) pc m') (rf k)) (hC : Chg [v k] w w6) (h6 : Grows w6 V6) (h9 : Grows ((V6.setCells (r k) 4 (regV x pc m)).setCell ⟨r k, 4, none⟩ (.int .u64 0)) V9) :
    Mid2 W (V9.setCell ⟨r k, 21, none⟩ (.int .i64 m')) pm me cb v f r bu g ix b16 b17 := by
  have hap := h.apart hk
  have hr6 := ((h.rv k hk).chg hC (by simp; exact hap.1)).grows h6
  have hr7 := hr6.setR (regV_ok x pc m)
  have hr9 := hr7.put421 m' h9
  have hc6 : Chg [r k] w6 V6 := Chg.of_grows h6
  have hc7 : Chg [r k] w6 (V6.setCells (r k) 4 (regV x pc m)) := Chg.setCells (Or.inl (by simp)) _ _ _ hc6
  have hc8 := hc7.setCell (b := r k) (Or.inl (by simp)) 4 (.int .u64 0)
  have hc9 := (hc8.trans (Chg.of_grows h9)).setCell (b := r k) (Or.inl (by simp)) 21 (.int .i64 m')
  obtain ⟨ha, hca⟩ := h.set hk h2 hV hC hr9 hc9
  exact ⟨ha, h.sl hk hca hs, hb.grows hk hca hg⟩
theorem rfL_at4 (g ix st co : Int) (x : Nat → Int) (pc m : Int) : (rfL g ix st co (regV x pc m)).toArray[4]? = some (.int .u64 (x 0)) ∧ (rfL g ix st co (regV x pc m)).toArray[21]? = some (.int .i64 m) := ⟨rfl, rfl⟩
end
end Go.Proofs.Ytilefidnjjbboaa
