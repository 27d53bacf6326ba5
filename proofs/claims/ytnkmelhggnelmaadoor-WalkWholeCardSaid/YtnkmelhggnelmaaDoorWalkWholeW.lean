/- The walk of WalkWhole. -/
import Derived.Test.YtnkmelhggnelmaaDoorWkD
import Derived.Test.YtnkmelhggnelmaaDoorWalkWholeL
import Derived.Test.YtnkmelhggnelmaaDoorSlice2
import Derived.Laws.AppendOwn
import Derived.Laws.OwnMore
namespace Go.Proofs.YtnkmelhggnelmaaDoor
open Go Go.RowKit
set_option linter.unusedSimpArgs false
set_option linter.unusedVariables false
set_option maxRecDepth 100000
def slotC (D : SlotD) : List Value := [.int .i64 D.f, .int .i64 D.p, .bool D.a, .bool D.b, .bool D.c, .bool D.d, .bool D.e, .bool D.g, .bool D.h, .int .i64 D.n, .int .u64 D.raw]
def slotsC (D : Nat → SlotD) : Nat → List Value
  | 0 => []
  | k + 1 => slotsC D k ++ slotC (D k)
theorem slotsC_len (D : Nat → SlotD) : ∀ k, (slotsC D k).length = k * 11
  | 0 => rfl
  | k + 1 => by
    show (slotsC D k ++ slotC (D k)).length = _
    rw [List.length_append, slotsC_len D k]
    show k * 11 + 11 = _
    omega
theorem slotsC_get (D : Nat → SlotD) {i j : Nat} (hj : j < 11) : ∀ k, i < k → (slotsC D k)[i * 11 + j]? = (slotC (D i))[j]?
  | 0, h => by omega
  | k + 1, h => by
    show (slotsC D k ++ slotC (D k))[i * 11 + j]? = _
    by_cases e : i = k
    · subst e
      rw [List.getElem?_append_right (by rw [slotsC_len]; omega), slotsC_len, show i * 11 + j - i * 11 = j by omega]
    · rw [List.getElem?_append_left (by rw [slotsC_len]; omega)]
      exact slotsC_get D hj k (by omega)
theorem row_put3' {w : World} {b : Nat} {t : TypeId} {x0 x1 x2 : Value} (h : Row w b #[x0, x1, x2] t) (x y z : Int) :
    Row (((w.setCell ⟨b, 0, none⟩ (.int .i64 x)).setCell ⟨b, 1, none⟩ (.int .u64 y)).setCell ⟨b, 2, none⟩ (.int .u64 z)) b #[.int .i64 x, .int .u64 y, .int .u64 z] t := by
  have h0 := row_setCell h (i := 0) (by simp) (.int .i64 x)
  have h1 := row_setCell h0 (i := 1) (by simp) (.int .u64 y)
  have h2 := row_setCell h1 (i := 2) (by simp) (.int .u64 z)
  simpa using h2
noncomputable def slotInfo : Bool := match Tryd.prog.info? 28 with
  | some i => (match i.zero with
    | some z => z.cells.size == 11 && i.size == 11 && i.bytes == 40
    | none => false)
  | none => false
theorem slotInfo_ok : slotInfo = true := by kernel_rfl
theorem info_slot : ∃ i z, Tryd.prog.info? 28 = some i ∧ i.zero = some z ∧ z.cells.size = 11 ∧ i.size = 11 ∧ i.bytes = 40 := by
  have h := slotInfo_ok
  unfold slotInfo at h
  cases hi : Tryd.prog.info? 28 with
  | none => rw [hi] at h; cases h
  | some i =>
    rw [hi] at h
    cases hz : i.zero with
    | none => simp [hz] at h
    | some z =>
      simp [hz] at h
      exact ⟨i, z, rfl, hz, h.1.1, h.1.2, h.2⟩
theorem run_apps {w : World} {base L b : Nat} {v : Value} {xs : List Value} (ty : TypeId) (hown : w.ownsRow base 28 11 v L xs) (D : SlotD) (hx : ∀ j u, (slotC D)[j]? = some u → w.cell? ⟨b, j, none⟩ = some u) (hL : L ≤ 1000000) (hbase : base ≤ w.heap.size) :
    ∃ v' w', (Builtin.append_ #[24, 24] ty #[v, .slice (some ⟨b, 0, none⟩) 1 1]).run Tryd.prog w = .ok v' w' ∧ w'.ownsRow base 28 11 v' (L + 1) (xs ++ slotC D) ∧ w.grownBy w' v.ownBlock := by
  obtain ⟨i, z, hi, hz, hz1, hz2, hz3⟩ := info_slot
  obtain ⟨v', w', hr, h1, h2, _⟩ := run_append_own (P := Tryd.prog) w base 24 ty 28 i z 11 40 Tryd.underlying24 hi hz hz2 hz3 hz1 (by omega) v L xs hown ⟨b, 0, none⟩ 1 1 (slotC D) rfl (fun j u hu => by
    have := hx j u hu
    have e : (⟨b, 0, none⟩ : Addr).add j = ⟨b, j, none⟩ := by
      unfold Addr.add
      by_cases h0 : j = 0
      · subst h0; rfl
      · simp [h0]
    rw [e]; exact this) (fun u hu => by simp [slotC] at hu; rcases hu with rfl | rfl | rfl | rfl | rfl | rfl | rfl | rfl | rfl | rfl | rfl <;> rfl) (by unfold maxLen; omega) (by omega) hbase
  exact ⟨v', w', hr, h1, h2⟩
theorem grows_own {w x y : World} {e : TypeId} {L s : Nat} {v : Value} {xs : List Value} (hg : Grows w x) (ho : x.ownsRow w.heap.size e s v L xs) (h : x.grownBy y v.ownBlock) : Grows w y :=
  Chg.nil_grows (Chg.grownBy (Chg.of_grows hg) h (fun b hb => by
    rcases ho.2 with ⟨rfl, _⟩ | ⟨g, cap, cur, rfl, hbg, _⟩
    · simp [Value.ownBlock] at hb
    · simp [Value.ownBlock] at hb; subst hb; exact Or.inr hbg))
theorem wpList_apps {w : World} {ops : Array Oper} {rest : List Oper} {o : Oper} {a : Act} {Q : Exit → Act → World → Prop} (hgd : o.guard = none) (s x : Operand)
    (ho : o.op = .call { callee := .builtin .append, args := #[s, x], argTypes := #[24, 24] }) {base L b : Nat} {v : Value} {xs : List Value} (D : SlotD) (hs : a.eval s = v)
    (hown : w.ownsRow base 28 11 v L xs) (hx : a.eval x = .slice (some ⟨b, 0, none⟩) 1 1) (hc : ∀ j u, (slotC D)[j]? = some u → w.cell? ⟨b, j, none⟩ = some u) (hL : L ≤ 1000000) (hbase : base ≤ w.heap.size)
    (h : ∀ v' w', w'.ownsRow base 28 11 v' (L + 1) (xs ++ slotC D) → w.grownBy w' v.ownBlock → wpList Tryd.prog ops Q rest (a.put o.dst v') w') : wpList Tryd.prog ops Q (o :: rest) a w := by
  refine wpList_plain hgd fun K hK => ?_
  obtain ⟨v', w', hrun, h1, h2⟩ := run_apps o.type hown D hc hL hbase
  unfold Oper.wp
  simp [execOp, ho, resolve, invoke, builtin, hs, hx, hrun, Result.andThen]
  exact hK _ _ (h v' w' h1 h2)
theorem slots_own {w : World} {base n : Nat} {v : Value} {D : Nat → SlotD} (h : w.ownsRow base 28 11 v (n + 1) (slotsC D (n + 1))) (hr : ∀ i, (D i).raw < 18446744073709551616) : ∃ A c, v = .slice A (n + 1) c ∧ SlotsIn w A (n + 1) D := by
  have h' := h
  obtain ⟨_, h0 | ⟨g, cap, cur, hv, hb, hh, _⟩⟩ := h
  · exact absurd h0.2 (by omega)
  · subst hv
    have h0' := h'
    refine ⟨_, _, rfl, fun i hi => ⟨g, 0, rfl, ?_, hr i, ?_⟩⟩
    · rcases Nat.lt_or_ge g w.heap.size with h' | h'
      · exact h'
      · rw [Array.getElem?_eq_none h'] at hh; cases hh
    · have hc : ∀ j, j < 11 → w.cell? ⟨g, 0 + i * 11 + j, none⟩ = (slotC (D i))[j]? := fun j hj => by
        rw [Nat.zero_add, World.ownsRow.cellAt h0' (i * 11 + j) (by omega), slotsC_get D hj _ hi]
      exact ⟨hc 0 (by decide), hc 1 (by decide), hc 2 (by decide), hc 3 (by decide), hc 4 (by decide), hc 5 (by decide), hc 6 (by decide), hc 7 (by decide), hc 8 (by decide), hc 9 (by decide), hc 10 (by decide)⟩
section
variable {H : Type} {enc : TypeId × Value → H}
theorem ints_in {W : World} {A : Option Addr} {n : Nat} {X : Nat → List Value} (hX : SliceIs2 enc Tryd.prog W [3] A n X) : ∃ fx : Nat → Int, ∀ i, i < n → ∃ b o, A = some ⟨b, o, none⟩ ∧ b < W.heap.size ∧ W.cell? ⟨b, o + i, none⟩ = some (.int .i64 (fx i)) := by
  have h : ∀ i, i < n → ∃ x : Int, ∃ b o, A = some ⟨b, o, none⟩ ∧ b < W.heap.size ∧ W.cell? ⟨b, o + i, none⟩ = some (.int .i64 x) := by
    intro i hi
    obtain ⟨b, o, hA, hb, hL, hc⟩ := hX i hi
    obtain ⟨c0, cs0, e0, l0, hL⟩ := hL.cons
    obtain ⟨f, rfl, _⟩ := l0.int Tryd.underlying3
    rw [e0] at hc
    have := hc 0 (by decide)
    simp at this
    exact ⟨f, b, o, hA, hb, this⟩
  exact Go.Deep.choose_lt h
set_option maxRecDepth 100000 in
set_option maxHeartbeats 8000000 in
theorem walkWhole_walk (W : World) (A : Option Addr) (n c : Nat) (X : Nat → List Value) (hnc : n ≤ c) (hsz : c * 8 < 140737488355328) (hX : SliceIs2 enc Tryd.prog W [3] A n X) (hA : A = none → c = 0) (at_ : Int) (wf1 : (Lit.int .u64 at_).wf = true) (acc : Int) (wf2 : (Lit.int .i64 acc).wf = true) (hT : Widths W) (hP : Places W) :
    Calls Tryd.prog 3 #[.slice A n c, .int .u64 at_, .int .i64 acc] W fun r w' => r = .returned (.bool true) ∧ Grows W w' := by
  obtain ⟨fx, hfx⟩ := ints_in hX
  have ba := bounds_u64 wf1
  obtain ⟨a0, rfl⟩ := Int.eq_ofNat_of_zero_le (show 0 ≤ at_ by omega)
  have HA0 := Lib.hid (show a0 < 18446744073709551616 by omega)
  have HN := Lib.hid (show n ≤ 9223372036854775807 by omega)
  have HFX := Lib.hid hfx
  have HT := Lib.hid hT
  have HP := Lib.hid hP
  have HAC := Lib.hid (bounds_i64 wf2)
  clear hX hnc hsz hA wf1 wf2 ba hT hP hfx
  go_enter Tryd.func3, Tryd.ntmps3
  go_upto_region 2 with fail
  obtain ⟨W1, hW1⟩ : ∃ W1, W1 = W.alloc (.cells #[.int .i64 0, .int .i64 0, .bool true, .bool false, .bool false, .bool false, .bool false, .bool false, .bool false, .int .i64 1, .int .u64 0] 28) := ⟨_, rfl⟩
  have hr1 : Row W1 W.heap.size #[.int .i64 0, .int .i64 0, .bool true, .bool false, .bool false, .bool false, .bool false, .bool false, .bool false, .int .i64 1, .int .u64 0] 28 := by rw [hW1]; exact Row.new _ _ _
  have hg1 : Grows W W1 := by rw [hW1]; exact (Grows.refl _).alloc _
  have hc1 : ∀ j u, (slotC (wholeD fx 0))[j]? = some u → W1.cell? ⟨W.heap.size, j, none⟩ = some u := fun j u hu => by
    have := hr1.cell j
    rw [this, ← hu]
    exact List.getElem?_toArray (xs := slotC (wholeD fx 0)) ..
  rw [hW1] at hc1
  go_wp2_with (at_builtin; refine wpList_apps (by rfl) (.tmp 17) (.tmp 20) (by rfl) (wholeD fx 0) (by rfl) (World.ownsRow_nil _ W.heap.size _ _) (by rfl) hc1 (by omega) (by simp) ?_; intro v' w6 hown6 hgr6)
  have hG6 := grows_own hg1 (World.ownsRow_nil W1 W.heap.size 28 11) (by rw [hW1]; exact hgr6)
  have hO6 : w6.ownsRow W.heap.size 28 11 v' (0 + 1) (slotsC (wholeD fx) (0 + 1)) := hown6
  clear hc1 hr1 hg1 hW1 hown6 hgr6
  go_loopw [7, 8] (fun s7 s8 wr => ∃ k : Nat, k ≤ 32 ∧ k ≤ n ∧ s8 = .int .i64 k ∧ wr.ownsRow W.heap.size 28 11 s7 (k + 1) (slotsC (wholeD fx) (k + 1)) ∧ Grows W wr) (fun _ s8 _ => (32 - intOf s8).toNat)
  case atStart => exact ⟨0, by omega, by omega, rfl, hO6, hG6⟩
  case round =>
    clear hO6 hG6
    obtain ⟨k, hk32, hkn, rfl, hown, hGr⟩ := hrel
    by_cases h1 : k < 32
    · have q1 : decide ((k : Int) < 32) = true := decide_eq_true (by omega)
      by_cases h2 : k < n
      · have q2 : decide ((k : Int) < (n : Int)) = true := decide_eq_true (by omega)
        obtain ⟨b, o, rfl, hb, hx⟩ := HFX.out k h2
        have d0 := (hGr.cell (o := o + k) hb).trans hx
        have m1 := and_mask_i64 (v := fx k) (n := 8) (by decide)
        rw [show (2 : Int) ^ 8 - 1 = 255 by decide, show (2 : Int) ^ 8 = 256 by decide] at m1
        have HX := Lib.hid (show slotC (wholeD fx (k + 1)) = [.int .i64 1, .int .i64 k, .bool true, .bool true, .bool true, .bool true, .bool true, .bool false, .bool false, .int .i64 (fx k % 256), .int .u64 0] from rfl)
        obtain ⟨fr, hfr⟩ : ∃ fr, fr = fx k % 256 := ⟨_, rfl⟩
        rw [← hfr] at m1 HX
        generalize fx k = fk at *
        have hbase : W.heap.size ≤ wr.heap.size := hGr.size
        obtain ⟨w5, hw5⟩ : ∃ w5, w5 = wr.alloc (.cells #[.int .i64 1, .int .i64 k, .bool true, .bool true, .bool true, .bool true, .bool true, .bool false, .bool false, .int .i64 fr, .int .u64 0] 28) := ⟨_, rfl⟩
        have hg5 : Grows wr w5 := by rw [hw5]; exact (Grows.refl _).alloc _
        have hown5 := hown.alloc (.cells #[.int .i64 1, .int .i64 k, .bool true, .bool true, .bool true, .bool true, .bool true, .bool false, .bool false, .int .i64 fr, .int .u64 0] 28)
        have hc5 : ∀ j u, (slotC (wholeD fx (k + 1)))[j]? = some u → w5.cell? ⟨wr.heap.size, j, none⟩ = some u := fun j u hu => by
          rw [HX.out] at hu
          have hr5 : Row w5 wr.heap.size #[.int .i64 1, .int .i64 k, .bool true, .bool true, .bool true, .bool true, .bool true, .bool false, .bool false, .int .i64 fr, .int .u64 0] 28 := by rw [hw5]; exact Row.new _ _ _
          rw [hr5.cell j, ← hu]
          exact List.getElem?_toArray (xs := ([.int .i64 1, .int .i64 k, .bool true, .bool true, .bool true, .bool true, .bool true, .bool false, .bool false, .int .i64 fr, .int .u64 0] : List Value)) ..
        have hb5 := Nat.le_trans hbase hg5.size
        rw [hw5] at hc5 hb5
        have HC5 := Lib.hid hc5
        have HO5 := Lib.hid hown5
        have HB5 := Lib.hid hb5
        have HGR := Lib.hid hGr
        have HG5 := Lib.hid (hGr.trans ((Grows.refl wr).alloc (.cells #[.int .i64 1, .int .i64 k, .bool true, .bool true, .bool true, .bool true, .bool true, .bool false, .bool false, .int .i64 fr, .int .u64 0] 28)))
        clear hw5 hg5 hown5 hown hc5 hb5 hbase hx hb hGr hfr
        go_wp2_with (at_builtin; refine wpList_apps (by rfl) (.tmp 32) (.tmp 41) (by rfl) (wholeD fx (k + 1)) (by rfl) HO5.out (by rfl) HC5.out (by omega) HB5.out ?_; intro v' w6 hown6 hgr6)
        have hg6 := grows_own HG5.out HO5.out hgr6
        have HO6 := Lib.hid hown6
        clear d0 m1 q1 q2 HO5 HC5 HB5 HG5 hgr6 hown6
        go_wp2_with fail
        exact ⟨⟨k + 1, by omega, by omega, by simp, HO6.out, hg6⟩, by simp [intOf]; omega⟩
      · have q2 : decide ((k : Int) < (n : Int)) = false := decide_eq_false (by omega)
        have HK := Lib.hid (show k ≤ 32 ∧ (k = 32 ∨ k = n) ∧ k ≤ n by omega)
        obtain ⟨A7, c7, rfl, hS⟩ := slots_own hown (fun i => by cases i <;> exact (show (0 : Nat) < 18446744073709551616 by decide))
        have HBO := Lib.hid (both_any (HT.out.grows hGr) A7 (k + 1) c7 (wholeD fx) (by omega) hS)
        have HGR := Lib.hid hGr
        clear hown hS hGr hk32 hkn
        as_aux_lemma =>
          go_wp2_with fail
          refine HBO.out.mono ?_
          clear HBO q1 q2 h1 h2
          rintro _ w2 ⟨p, q, rp, rfl, hM2, hg2⟩
          have HM2 := Lib.hid hM2
          have HG2 := Lib.hid (HGR.out.trans hg2)
          clear hM2 hg2 HGR
          obtain ⟨r3, hr3⟩ : ∃ r, r = acc.tmod 3 := ⟨_, rfl⟩
          have hr3l : -3 < r3 ∧ r3 < 3 := by rw [hr3]; have := Int.tmod_lt_of_pos acc (show (0 : Int) < 3 by decide); have h2 := Int.lt_tmod_of_pos acc (show (0 : Int) < 3 by decide); omega
          have e1 : IntKind.i64.wrap (r3 + 3) = r3 + 3 := by rw [IntKind.wrap_i64]; omega
          obtain ⟨kk, hkk⟩ : ∃ kk, kk = (r3 + 3).tmod 3 := ⟨_, rfl⟩
          have HKK := Lib.hid (show kk = 0 ∨ kk = 1 ∨ kk = 2 by rw [hkk, Int.tmod_eq_emod_of_nonneg (by omega)]; omega)
          have e2 := and_mask_u64 (x := (a0 : Int)) (n := 14) (by omega) (by have := HA0.out; omega) (by decide)
          rw [show (2 : Int) ^ 14 - 1 = 16383 by decide, show (2 : Int) ^ 14 = 16384 by decide] at e2
          obtain ⟨a, ha⟩ : ∃ a : Nat, (a : Int) = (a0 : Int) % 16384 := ⟨a0 % 16384, by omega⟩
          have HA := Lib.hid (show a < 16384 by omega)
          rw [← ha] at e2
          have e3 := hr3.symm
          have e4 := hkk.symm
          clear hr3 hkk ha hr3l
          go_upto_region 12 with fail
          clear e1 e2 e3 e4
          have htw := two_neg (HT.out.grows HG2.out) (HP.out.grows HG2.out) HM2.out (first := -1) 0 (A := a) (by have := HA.out; omega) kk true (by decide)
          have htw2 := fun w => two_no (p := p) (N := 4096) (B := bothB (wholeD fx) (k + 1)) (-1) 0 (A := a + 262144) (by have := HA.out; omega) kk true (by omega) (w := w)
          have htw3 := fun w (hg : Grows w2 w) => two_neg ((HT.out.grows HG2.out).grows hg) ((HP.out.grows HG2.out).grows hg) (HM2.out.grows hg) (first := -1) (-1) (A := a) (by have := HA.out; omega) kk true (by decide)
          unfold rdr at htw htw2 htw3
          have HTW2 := Lib.hid htw2
          have HTW3 := Lib.hid htw3
          clear htw2 htw3
          go_wp2_with fail
          refine htw.mono ?_
          clear htw
          rintro _ w3 ⟨⟨v, rfl, hv⟩, hg3⟩
          have HG3 := Lib.hid (HG2.out.trans hg3)
          have HG23 := Lib.hid hg3
          have hon := whole_one fx HK.out.1 HA.out HKK.out
          have hpg : IntKind.i64.wrap ((a : Int) / 256) = (a : Int) / 256 := by have := HA.out; rw [IntKind.wrap_i64]; omega
          clear hg3 HG2 HM2
          by_cases hp : a / 256 < k
          · rw [if_pos hp] at hon
            rcases hv with ⟨cc, g, rfl, hc, hno, _⟩ | ⟨v, g, r1, s1, x1, u1, lv, rfl, ho, hx, hr, hs, hu, hA', hng⟩
            · exact absurd (hno (by decide) (by have := HA.out; omega)).1 (by rw [hon]; simp)
            obtain ⟨rfl, rfl, rfl, rfl, rfl⟩ := hng (by decide)
            rw [hon] at ho
            injection ho with ho
            subst hu
            subst ho
            obtain ⟨pg, hpgd⟩ : ∃ pg, pg = g / 256 := ⟨_, rfl⟩
            rw [← hpgd] at hp ⊢
            have hpi : (g : Int) / 256 = (pg : Int) := by omega
            have htd : (g : Int).tdiv 256 = (pg : Int) := by rw [Int.tdiv_eq_ediv_of_nonneg (by omega)]; omega
            rw [hpi] at hpg
            have z0 := Int.emod_nonneg (fx pg) (show (256 : Int) ≠ 0 by decide)
            have z1 := Int.emod_lt_of_pos (fx pg) (show (0 : Int) < 256 by decide)
            obtain ⟨fr, hfr⟩ : ∃ fr : Nat, (fr : Int) = fx pg % 256 := ⟨(fx pg % 256).toNat, by omega⟩
            rw [show (fx pg % 256).toNat = fr by omega]
            obtain ⟨x1, x2, x3, x4⟩ := entry_ok (n := fr) (by omega)
            rw [x2, x3 1 (by decide), x3 2 (by decide), x3 3 (by decide)]
            simp only [Bool.and_self]
            have m1 := and_mask_i64 (v := fx pg) (n := 8) (by decide)
            rw [show (2 : Int) ^ 8 - 1 = 255 by decide, show (2 : Int) ^ 8 = 256 by decide, ← hfr] at m1
            obtain ⟨b, o, rfl, hb, hxx⟩ := HFX.out pg (by have := HK.out; omega)
            have hlb := HG3.out.lt hb
            have d0 := (HG3.out.cell (o := o + pg) hb).trans hxx
            have hpn : pg < n := by have := HK.out; omega
            have q3 : decide ((pg : Int) < (n : Int)) = true := decide_eq_true (by omega)
            have q4 : decide ((pg : Int) < 32) = true := decide_eq_true (by have := HK.out; omega)
            have hnt := fun w => neq_trap 0 0 0 0 0 0 w
            simp only [beq_self_eq_true, Bool.and_self, Bool.not_true] at hnt
            generalize fx pg = fxp at *
            clear z0 z1 hfr x1 x2 x3 x4 hb hxx hpgd hon hx hr hs hp
            unfold zeroT
            go_upto_region 13 with fail
            obtain ⟨b12, hb12⟩ : ∃ b, b = w3.heap.size := ⟨_, rfl⟩
            obtain ⟨b13, hb13⟩ : ∃ b, b = w3.heap.size + 1 := ⟨_, rfl⟩
            obtain ⟨W4, hW4⟩ : ∃ W4, W4 = (w3.alloc (Obj.cells #[.int .i64 fr, .bool true, .bool true, .bool true, .bool true, .int .i64 2] 34)).alloc (Obj.cells #[.int .i64 0, .int .u64 0, .int .u64 0] 36) := ⟨_, rfl⟩
            rw [← hW4, ← hb13, ← hb12]
            have hg34 : Grows w3 W4 := by rw [hW4]; exact ((Grows.refl _).alloc _).alloc _
            have HR12 := Lib.hid (show Row W4 b12 #[.int .i64 fr, .bool true, .bool true, .bool true, .bool true, .int .i64 2] 34 by rw [hW4, hb12]; exact (Row.new _ _ _).grows ((Grows.refl _).alloc _))
            have HR13 := Lib.hid (show Row W4 b13 #[.int .i64 0, .int .u64 0, .int .u64 0] 36 by rw [hW4]; exact Row.new_at _ _ _ (by simp [hb13]))
            have HB13 := Lib.hid (show w2.heap.size ≤ b13 by have := HG23.out.size; omega)
            have HBW := Lib.hid (show W.heap.size ≤ b13 by have := HG3.out.size; omega)
            have HG4 := Lib.hid (HG3.out.trans hg34)
            have HG24 := Lib.hid (HG23.out.trans hg34)
            have d1 := (hg34.cell (o := o + pg) hlb).trans d0
            clear d0 hW4 hb12 hb13 HG3 HG23 hg34 hlb
            have l12 := HR12.out.lt
            have l13 := HR13.out.lt
            have f0 : W4.cell? ⟨b12, 0, none⟩ = some (.int .i64 fr) := HR12.out.cell 0
            have f1 : W4.cell? ⟨b12, 1, none⟩ = some (.bool true) := HR12.out.cell 1
            have f2 : W4.cell? ⟨b12, 2, none⟩ = some (.bool true) := HR12.out.cell 2
            have f3 : W4.cell? ⟨b12, 3, none⟩ = some (.bool true) := HR12.out.cell 3
            have f4 : W4.cell? ⟨b12, 4, none⟩ = some (.bool true) := HR12.out.cell 4
            have f5 : W4.cell? ⟨b12, 5, none⟩ = some (.int .i64 2) := HR12.out.cell 5
            have t0 : W4.cell? ⟨b13, 0, none⟩ = some (.int .i64 0) := HR13.out.cell 0
            have t1 : W4.cell? ⟨b13, 1, none⟩ = some (.int .u64 0) := HR13.out.cell 1
            have t2 : W4.cell? ⟨b13, 2, none⟩ = some (.int .u64 0) := HR13.out.cell 2
            go_upto_region 15 with fail
            go_region
            all_goals
              obtain ⟨Wx, hWx⟩ : ∃ Wx, Wx = W4.drew := ⟨_, rfl⟩
              rw [← hWx]
              have HRX := Lib.hid (show Row Wx b13 #[.int .i64 0, .int .u64 0, .int .u64 0] 36 by rw [hWx]; exact HR13.out.grows ((Grows.refl _).drew))
              have HGX := Lib.hid (show Grows W Wx by rw [hWx]; exact HG4.out.drew)
              have HG2X := Lib.hid (show Grows w2 Wx by rw [hWx]; exact HG24.out.drew)
              clear HR12 HR13 HG4 HG24 d1 l12 l13 f0 f1 f2 f3 f4 f5 t0 t1 t2 q3 q4 hWx m1 hpi htd hpg hpn
              have e5 : IntKind.u64.wrap ((g : Int) + 262144) = ((g + 262144 : Nat) : Int) := by rw [wrap_u64_small (by omega) (by have := HA.out; omega)]; omega
              go_wp2_with fail
              refine (HTW2.out _).mono ?_
              rintro _ w5 ⟨⟨v2, rfl, hv2⟩, hg5⟩
              rcases hv2 with ⟨c2, g2, rfl, hc2, _, hcc⟩ | ⟨v', g', r1', s1', x1', u1', lv', rfl, _, _, _, _, _, hA2, _⟩
              rotate_left
              · exact absurd hA2 (by omega)
              have hcc2 := hcc (by omega)
              subst hcc2
              have HR5 := Lib.hid (HRX.out.grows hg5)
              have HG5 := Lib.hid (HGX.out.trans hg5)
              have HG25 := Lib.hid (HG2X.out.trans hg5)
              clear hg5 HRX HGX HG2X HTW2 e5 hcc hc2
              have l13 := HR5.out.lt
              have t0 := (HR5.out.cell 0)
              have t1 := (HR5.out.cell 1)
              have t2 := (HR5.out.cell 2)
              have y0 := HR5.out.frozen 0
              have y1 := HR5.out.frozen 1
              have y2 := HR5.out.frozen 2
              go_upto_region 20 with fail
              clear t0 t1 t2 y0 y1 y2 l13
              obtain ⟨W6, hW6⟩ : ∃ W6, W6 = ((w5.setCell ⟨b13, 0, none⟩ (.int .i64 (fltZ kk false))).setCell ⟨b13, 1, none⟩ (.int .u64 ((g : Int) + 262144))).setCell ⟨b13, 2, none⟩ (.int .u64 g2) := ⟨_, rfl⟩
              rw [← hW6]
              have HR6 := Lib.hid (show Row W6 b13 #[.int .i64 (fltZ kk false), .int .u64 ((g : Int) + 262144), .int .u64 g2] 36 by rw [hW6]; exact row_put3' HR5.out _ _ _)
              have HG6 := Lib.hid (show Grows W W6 by rw [hW6]; exact grows_fill3 HG5.out HBW.out _ _ _)
              have HG26 := Lib.hid (show Grows w2 W6 by rw [hW6]; exact grows_fill3 HG25.out HB13.out _ _ _)
              clear hW6 HR5 HG5 HG25
              go_wp2_with fail
              refine (HTW3.out _ HG26.out).mono ?_
              rintro _ w7 ⟨⟨v3, rfl, hv3⟩, hg7⟩
              rcases hv3 with ⟨c3, g3, rfl, _, hc3, _⟩ | ⟨v', g', r1', s1', x1', u1', lv', rfl, ho', _, _, _, _, hA2, hn'⟩
              rotate_left
              · rw [none_one] at ho'
                cases ho'
              obtain ⟨_, rfl, rfl⟩ := hc3 (by decide) (by have := HA.out; omega)
              have HR7 := Lib.hid (HR6.out.grows hg7)
              have HG7 := Lib.hid (HG6.out.trans hg7)
              clear HR6 HG6 HG26 HTW3 hg7 hc3
              have l13 : ∀ x y, b13 < ((w7.alloc x).alloc y).heap.size := fun x y => (HR7.out.grows (((Grows.refl _).alloc _).alloc _)).lt
              have t0 : ∀ x y, ((w7.alloc x).alloc y).cell? ⟨b13, 0, none⟩ = some (.int .i64 (fltZ kk false)) := fun x y => (HR7.out.grows (((Grows.refl _).alloc _).alloc _)).cell 0
              have v0 : 12 ≤ fltZ kk false ∧ fltZ kk false ≤ 15 ∧ 20 ≤ fltZ kk true := by rcases HKK.out with rfl | rfl | rfl <;> decide
              have q5 : decide (12 ≤ fltZ kk false) = true := decide_eq_true v0.1
              have q6 : decide (fltZ kk false ≤ 15) = true := decide_eq_true v0.2.1
              have q7 : decide (20 ≤ fltZ kk true) = true := decide_eq_true v0.2.2
              clear v0
              generalize fltZ kk false = fa at *
              generalize fltZ kk true = fb at *
              unfold zeroF
              go_wp2_with fail
              go_ret
              exact ⟨rfl, (HG7.out.alloc _).alloc _⟩
          · rw [if_neg hp] at hon
            rcases hv with ⟨cc, g, rfl, hc, hno, _⟩ | ⟨v, g, r1, s1, x1, u1, lv, rfl, ho, hx, hr, hs, hu, hA', hng⟩
            · obtain ⟨_, rfl, rfl⟩ := hno (by decide) (by have := HA.out; omega)
              obtain ⟨pg, hpgd⟩ : ∃ pg, pg = g / 256 := ⟨_, rfl⟩
              rw [← hpgd] at hp
              have hpi : (g : Int) / 256 = (pg : Int) := by omega
              have htd : (g : Int).tdiv 256 = (pg : Int) := by rw [Int.tdiv_eq_ediv_of_nonneg (by omega)]; omega
              rw [hpi] at hpg
              have hw1 : IntKind.u64.wrap (pg : Int) = pg := wrap_u64_small (by omega) (by have := HA.out; omega)
              have hw2 : wrap64 (pg : Int) = pg := wrap64_small (by omega) (by have := HA.out; omega)
              have hnp : ¬ (pg < n ∧ pg < 32) := by have := HK.out; omega
              have v0 : fltZ kk true < 20 ↔ False := by rcases HKK.out with rfl | rfl | rfl <;> decide
              have q5 : decide (fltZ kk true < 20) = false := decide_eq_false (fun h => v0.1 h)
              clear hpgd hon hp hno v0
              unfold zeroF
              go_upto_region 13 with fail
              obtain ⟨b13, hb13⟩ : ∃ b, b = w3.heap.size + 1 := ⟨_, rfl⟩
              obtain ⟨W4, hW4⟩ : ∃ W4, W4 = (w3.alloc (Obj.cells #[.int .i64 0, .bool false, .bool false, .bool false, .bool false, .int .i64 0] 34)).alloc (Obj.cells #[.int .i64 (fltZ kk true), .int .u64 g, .int .u64 g] 36) := ⟨_, rfl⟩
              rw [← hW4, ← hb13]
              have hg34 : Grows w3 W4 := by rw [hW4]; exact ((Grows.refl _).alloc _).alloc _
              have HRX := Lib.hid (show Row W4 b13 #[.int .i64 (fltZ kk true), .int .u64 g, .int .u64 g] 36 by rw [hW4]; exact Row.new_at _ _ _ (by simp [hb13]))
              have HB13 := Lib.hid (show w2.heap.size ≤ b13 by have := HG23.out.size; omega)
              have HBW := Lib.hid (show W.heap.size ≤ b13 by have := HG3.out.size; omega)
              have HGX := Lib.hid (HG3.out.trans hg34)
              have HG2X := Lib.hid (HG23.out.trans hg34)
              clear hW4 hb13 HG3 HG23 hg34
              have l13 := HRX.out.lt
              have t0 : W4.cell? ⟨b13, 0, none⟩ = some (.int .i64 (fltZ kk true)) := HRX.out.cell 0
              have t1 : W4.cell? ⟨b13, 1, none⟩ = some (.int .u64 g) := HRX.out.cell 1
              have t2 : W4.cell? ⟨b13, 2, none⟩ = some (.int .u64 g) := HRX.out.cell 2
              by_cases hp1 : pg < n
              · have q3 : decide ((pg : Int) < 32) = false := decide_eq_false (by omega)
                go_upto_region 19 with fail
                clear t0 t1 t2 l13 hp1 hnp q3 hpi htd hpg q5 hw1 hw2
                have e5 : IntKind.u64.wrap ((g : Int) + 262144) = ((g + 262144 : Nat) : Int) := by rw [wrap_u64_small (by omega) (by have := HA.out; omega)]; omega
                go_wp2_with fail
                refine (HTW2.out _).mono ?_
                rintro _ w5 ⟨⟨v2, rfl, hv2⟩, hg5⟩
                rcases hv2 with ⟨c2, g2, rfl, hc2, _, hcc⟩ | ⟨v', g', r1', s1', x1', u1', lv', rfl, _, _, _, _, _, hA2, _⟩
                rotate_left
                · exact absurd hA2 (by omega)
                have hcc2 := hcc (by omega)
                subst hcc2
                have HR5 := Lib.hid (HRX.out.grows hg5)
                have HG5 := Lib.hid (HGX.out.trans hg5)
                have HG25 := Lib.hid (HG2X.out.trans hg5)
                clear hg5 HRX HGX HG2X HTW2 e5 hcc hc2
                have l13 := HR5.out.lt
                have t0 := (HR5.out.cell 0)
                have t1 := (HR5.out.cell 1)
                have t2 := (HR5.out.cell 2)
                have y0 := HR5.out.frozen 0
                have y1 := HR5.out.frozen 1
                have y2 := HR5.out.frozen 2
                go_upto_region 20 with fail
                clear t0 t1 t2 y0 y1 y2 l13
                obtain ⟨W6, hW6⟩ : ∃ W6, W6 = ((w5.setCell ⟨b13, 0, none⟩ (.int .i64 (fltZ kk false))).setCell ⟨b13, 1, none⟩ (.int .u64 ((g : Int) + 262144))).setCell ⟨b13, 2, none⟩ (.int .u64 g2) := ⟨_, rfl⟩
                rw [← hW6]
                have HR6 := Lib.hid (show Row W6 b13 #[.int .i64 (fltZ kk false), .int .u64 ((g : Int) + 262144), .int .u64 g2] 36 by rw [hW6]; exact row_put3' HR5.out _ _ _)
                have HG6 := Lib.hid (show Grows W W6 by rw [hW6]; exact grows_fill3 HG5.out HBW.out _ _ _)
                have HG26 := Lib.hid (show Grows w2 W6 by rw [hW6]; exact grows_fill3 HG25.out HB13.out _ _ _)
                clear hW6 HR5 HG5 HG25
                go_wp2_with fail
                refine (HTW3.out _ HG26.out).mono ?_
                rintro _ w7 ⟨⟨v3, rfl, hv3⟩, hg7⟩
                rcases hv3 with ⟨c3, g3, rfl, _, hc3, _⟩ | ⟨v', g', r1', s1', x1', u1', lv', rfl, ho', _, _, _, _, hA2, hn'⟩
                rotate_left
                · rw [none_one] at ho'
                  cases ho'
                obtain ⟨_, rfl, rfl⟩ := hc3 (by decide) (by have := HA.out; omega)
                have HR7 := Lib.hid (HR6.out.grows hg7)
                have HG7 := Lib.hid (HG6.out.trans hg7)
                clear HR6 HG6 HG26 HTW3 hg7 hc3
                have l13 : ∀ x y, b13 < ((w7.alloc x).alloc y).heap.size := fun x y => (HR7.out.grows (((Grows.refl _).alloc _).alloc _)).lt
                have t0 : ∀ x y, ((w7.alloc x).alloc y).cell? ⟨b13, 0, none⟩ = some (.int .i64 (fltZ kk false)) := fun x y => (HR7.out.grows (((Grows.refl _).alloc _).alloc _)).cell 0
                have v0 : 12 ≤ fltZ kk false ∧ fltZ kk false ≤ 15 ∧ 20 ≤ fltZ kk true := by rcases HKK.out with rfl | rfl | rfl <;> decide
                have q5 : decide (12 ≤ fltZ kk false) = true := decide_eq_true v0.1
                have q6 : decide (fltZ kk false ≤ 15) = true := decide_eq_true v0.2.1
                have q7 : decide (20 ≤ fltZ kk true) = true := decide_eq_true v0.2.2
                clear v0
                generalize fltZ kk false = fa at *
                generalize fltZ kk true = fb at *
                unfold zeroF
                go_wp2_with fail
                go_ret
                exact ⟨rfl, (HG7.out.alloc _).alloc _⟩
              · have q3 : decide ((pg : Int) < (n : Int)) = false := decide_eq_false (by omega)
                go_upto_region 19 with fail
                clear t0 t1 t2 l13 hp1 hnp q3 hpi htd hpg q5 hw1 hw2
                have e5 : IntKind.u64.wrap ((g : Int) + 262144) = ((g + 262144 : Nat) : Int) := by rw [wrap_u64_small (by omega) (by have := HA.out; omega)]; omega
                go_wp2_with fail
                refine (HTW2.out _).mono ?_
                rintro _ w5 ⟨⟨v2, rfl, hv2⟩, hg5⟩
                rcases hv2 with ⟨c2, g2, rfl, hc2, _, hcc⟩ | ⟨v', g', r1', s1', x1', u1', lv', rfl, _, _, _, _, _, hA2, _⟩
                rotate_left
                · exact absurd hA2 (by omega)
                have hcc2 := hcc (by omega)
                subst hcc2
                have HR5 := Lib.hid (HRX.out.grows hg5)
                have HG5 := Lib.hid (HGX.out.trans hg5)
                have HG25 := Lib.hid (HG2X.out.trans hg5)
                clear hg5 HRX HGX HG2X HTW2 e5 hcc hc2
                have l13 := HR5.out.lt
                have t0 := (HR5.out.cell 0)
                have t1 := (HR5.out.cell 1)
                have t2 := (HR5.out.cell 2)
                have y0 := HR5.out.frozen 0
                have y1 := HR5.out.frozen 1
                have y2 := HR5.out.frozen 2
                go_upto_region 20 with fail
                clear t0 t1 t2 y0 y1 y2 l13
                obtain ⟨W6, hW6⟩ : ∃ W6, W6 = ((w5.setCell ⟨b13, 0, none⟩ (.int .i64 (fltZ kk false))).setCell ⟨b13, 1, none⟩ (.int .u64 ((g : Int) + 262144))).setCell ⟨b13, 2, none⟩ (.int .u64 g2) := ⟨_, rfl⟩
                rw [← hW6]
                have HR6 := Lib.hid (show Row W6 b13 #[.int .i64 (fltZ kk false), .int .u64 ((g : Int) + 262144), .int .u64 g2] 36 by rw [hW6]; exact row_put3' HR5.out _ _ _)
                have HG6 := Lib.hid (show Grows W W6 by rw [hW6]; exact grows_fill3 HG5.out HBW.out _ _ _)
                have HG26 := Lib.hid (show Grows w2 W6 by rw [hW6]; exact grows_fill3 HG25.out HB13.out _ _ _)
                clear hW6 HR5 HG5 HG25
                go_wp2_with fail
                refine (HTW3.out _ HG26.out).mono ?_
                rintro _ w7 ⟨⟨v3, rfl, hv3⟩, hg7⟩
                rcases hv3 with ⟨c3, g3, rfl, _, hc3, _⟩ | ⟨v', g', r1', s1', x1', u1', lv', rfl, ho', _, _, _, _, hA2, hn'⟩
                rotate_left
                · rw [none_one] at ho'
                  cases ho'
                obtain ⟨_, rfl, rfl⟩ := hc3 (by decide) (by have := HA.out; omega)
                have HR7 := Lib.hid (HR6.out.grows hg7)
                have HG7 := Lib.hid (HG6.out.trans hg7)
                clear HR6 HG6 HG26 HTW3 hg7 hc3
                have l13 : ∀ x y, b13 < ((w7.alloc x).alloc y).heap.size := fun x y => (HR7.out.grows (((Grows.refl _).alloc _).alloc _)).lt
                have t0 : ∀ x y, ((w7.alloc x).alloc y).cell? ⟨b13, 0, none⟩ = some (.int .i64 (fltZ kk false)) := fun x y => (HR7.out.grows (((Grows.refl _).alloc _).alloc _)).cell 0
                have v0 : 12 ≤ fltZ kk false ∧ fltZ kk false ≤ 15 ∧ 20 ≤ fltZ kk true := by rcases HKK.out with rfl | rfl | rfl <;> decide
                have q5 : decide (12 ≤ fltZ kk false) = true := decide_eq_true v0.1
                have q6 : decide (fltZ kk false ≤ 15) = true := decide_eq_true v0.2.1
                have q7 : decide (20 ≤ fltZ kk true) = true := decide_eq_true v0.2.2
                clear v0
                generalize fltZ kk false = fa at *
                generalize fltZ kk true = fb at *
                unfold zeroF
                go_wp2_with fail
                go_ret
                exact ⟨rfl, (HG7.out.alloc _).alloc _⟩
            · obtain ⟨_, _, _, rfl, _⟩ := hng (by decide)
              rw [hon] at ho
              cases ho
    · have q1 : decide ((k : Int) < 32) = false := decide_eq_false (by omega)
      have HK := Lib.hid (show k ≤ 32 ∧ (k = 32 ∨ k = n) ∧ k ≤ n by omega)
      obtain ⟨A7, c7, rfl, hS⟩ := slots_own hown (fun i => by cases i <;> exact (show (0 : Nat) < 18446744073709551616 by decide))
      have HBO := Lib.hid (both_any (HT.out.grows hGr) A7 (k + 1) c7 (wholeD fx) (by omega) hS)
      have HGR := Lib.hid hGr
      clear hown hS hGr hk32 hkn h1
      as_aux_lemma =>
        go_wp2_with fail
        refine HBO.out.mono ?_
        clear HBO q1
        rintro _ w2 ⟨p, q, rp, rfl, hM2, hg2⟩
        have HM2 := Lib.hid hM2
        have HG2 := Lib.hid (HGR.out.trans hg2)
        clear hM2 hg2 HGR
        obtain ⟨r3, hr3⟩ : ∃ r, r = acc.tmod 3 := ⟨_, rfl⟩
        have hr3l : -3 < r3 ∧ r3 < 3 := by rw [hr3]; have := Int.tmod_lt_of_pos acc (show (0 : Int) < 3 by decide); have h2 := Int.lt_tmod_of_pos acc (show (0 : Int) < 3 by decide); omega
        have e1 : IntKind.i64.wrap (r3 + 3) = r3 + 3 := by rw [IntKind.wrap_i64]; omega
        obtain ⟨kk, hkk⟩ : ∃ kk, kk = (r3 + 3).tmod 3 := ⟨_, rfl⟩
        have HKK := Lib.hid (show kk = 0 ∨ kk = 1 ∨ kk = 2 by rw [hkk, Int.tmod_eq_emod_of_nonneg (by omega)]; omega)
        have e2 := and_mask_u64 (x := (a0 : Int)) (n := 14) (by omega) (by have := HA0.out; omega) (by decide)
        rw [show (2 : Int) ^ 14 - 1 = 16383 by decide, show (2 : Int) ^ 14 = 16384 by decide] at e2
        obtain ⟨a, ha⟩ : ∃ a : Nat, (a : Int) = (a0 : Int) % 16384 := ⟨a0 % 16384, by omega⟩
        have HA := Lib.hid (show a < 16384 by omega)
        rw [← ha] at e2
        have e3 := hr3.symm
        have e4 := hkk.symm
        clear hr3 hkk ha hr3l
        go_upto_region 12 with fail
        clear e1 e2 e3 e4
        have htw := two_neg (HT.out.grows HG2.out) (HP.out.grows HG2.out) HM2.out (first := -1) 0 (A := a) (by have := HA.out; omega) kk true (by decide)
        have htw2 := fun w => two_no (p := p) (N := 4096) (B := bothB (wholeD fx) (k + 1)) (-1) 0 (A := a + 262144) (by have := HA.out; omega) kk true (by omega) (w := w)
        have htw3 := fun w (hg : Grows w2 w) => two_neg ((HT.out.grows HG2.out).grows hg) ((HP.out.grows HG2.out).grows hg) (HM2.out.grows hg) (first := -1) (-1) (A := a) (by have := HA.out; omega) kk true (by decide)
        unfold rdr at htw htw2 htw3
        have HTW2 := Lib.hid htw2
        have HTW3 := Lib.hid htw3
        clear htw2 htw3
        go_wp2_with fail
        refine htw.mono ?_
        clear htw
        rintro _ w3 ⟨⟨v, rfl, hv⟩, hg3⟩
        have HG3 := Lib.hid (HG2.out.trans hg3)
        have HG23 := Lib.hid hg3
        have hon := whole_one fx HK.out.1 HA.out HKK.out
        have hpg : IntKind.i64.wrap ((a : Int) / 256) = (a : Int) / 256 := by have := HA.out; rw [IntKind.wrap_i64]; omega
        clear hg3 HG2 HM2
        by_cases hp : a / 256 < k
        · rw [if_pos hp] at hon
          rcases hv with ⟨cc, g, rfl, hc, hno, _⟩ | ⟨v, g, r1, s1, x1, u1, lv, rfl, ho, hx, hr, hs, hu, hA', hng⟩
          · exact absurd (hno (by decide) (by have := HA.out; omega)).1 (by rw [hon]; simp)
          obtain ⟨rfl, rfl, rfl, rfl, rfl⟩ := hng (by decide)
          rw [hon] at ho
          injection ho with ho
          subst hu
          subst ho
          obtain ⟨pg, hpgd⟩ : ∃ pg, pg = g / 256 := ⟨_, rfl⟩
          rw [← hpgd] at hp ⊢
          have hpi : (g : Int) / 256 = (pg : Int) := by omega
          have htd : (g : Int).tdiv 256 = (pg : Int) := by rw [Int.tdiv_eq_ediv_of_nonneg (by omega)]; omega
          rw [hpi] at hpg
          have z0 := Int.emod_nonneg (fx pg) (show (256 : Int) ≠ 0 by decide)
          have z1 := Int.emod_lt_of_pos (fx pg) (show (0 : Int) < 256 by decide)
          obtain ⟨fr, hfr⟩ : ∃ fr : Nat, (fr : Int) = fx pg % 256 := ⟨(fx pg % 256).toNat, by omega⟩
          rw [show (fx pg % 256).toNat = fr by omega]
          obtain ⟨x1, x2, x3, x4⟩ := entry_ok (n := fr) (by omega)
          rw [x2, x3 1 (by decide), x3 2 (by decide), x3 3 (by decide)]
          simp only [Bool.and_self]
          have m1 := and_mask_i64 (v := fx pg) (n := 8) (by decide)
          rw [show (2 : Int) ^ 8 - 1 = 255 by decide, show (2 : Int) ^ 8 = 256 by decide, ← hfr] at m1
          obtain ⟨b, o, rfl, hb, hxx⟩ := HFX.out pg (by have := HK.out; omega)
          have hlb := HG3.out.lt hb
          have d0 := (HG3.out.cell (o := o + pg) hb).trans hxx
          have hpn : pg < n := by have := HK.out; omega
          have q3 : decide ((pg : Int) < (n : Int)) = true := decide_eq_true (by omega)
          have q4 : decide ((pg : Int) < 32) = true := decide_eq_true (by have := HK.out; omega)
          have hnt := fun w => neq_trap 0 0 0 0 0 0 w
          simp only [beq_self_eq_true, Bool.and_self, Bool.not_true] at hnt
          generalize fx pg = fxp at *
          clear z0 z1 hfr x1 x2 x3 x4 hb hxx hpgd hon hx hr hs hp
          unfold zeroT
          go_upto_region 13 with fail
          obtain ⟨b12, hb12⟩ : ∃ b, b = w3.heap.size := ⟨_, rfl⟩
          obtain ⟨b13, hb13⟩ : ∃ b, b = w3.heap.size + 1 := ⟨_, rfl⟩
          obtain ⟨W4, hW4⟩ : ∃ W4, W4 = (w3.alloc (Obj.cells #[.int .i64 fr, .bool true, .bool true, .bool true, .bool true, .int .i64 2] 34)).alloc (Obj.cells #[.int .i64 0, .int .u64 0, .int .u64 0] 36) := ⟨_, rfl⟩
          rw [← hW4, ← hb13, ← hb12]
          have hg34 : Grows w3 W4 := by rw [hW4]; exact ((Grows.refl _).alloc _).alloc _
          have HR12 := Lib.hid (show Row W4 b12 #[.int .i64 fr, .bool true, .bool true, .bool true, .bool true, .int .i64 2] 34 by rw [hW4, hb12]; exact (Row.new _ _ _).grows ((Grows.refl _).alloc _))
          have HR13 := Lib.hid (show Row W4 b13 #[.int .i64 0, .int .u64 0, .int .u64 0] 36 by rw [hW4]; exact Row.new_at _ _ _ (by simp [hb13]))
          have HB13 := Lib.hid (show w2.heap.size ≤ b13 by have := HG23.out.size; omega)
          have HBW := Lib.hid (show W.heap.size ≤ b13 by have := HG3.out.size; omega)
          have HG4 := Lib.hid (HG3.out.trans hg34)
          have HG24 := Lib.hid (HG23.out.trans hg34)
          have d1 := (hg34.cell (o := o + pg) hlb).trans d0
          clear d0 hW4 hb12 hb13 HG3 HG23 hg34 hlb
          have l12 := HR12.out.lt
          have l13 := HR13.out.lt
          have f0 : W4.cell? ⟨b12, 0, none⟩ = some (.int .i64 fr) := HR12.out.cell 0
          have f1 : W4.cell? ⟨b12, 1, none⟩ = some (.bool true) := HR12.out.cell 1
          have f2 : W4.cell? ⟨b12, 2, none⟩ = some (.bool true) := HR12.out.cell 2
          have f3 : W4.cell? ⟨b12, 3, none⟩ = some (.bool true) := HR12.out.cell 3
          have f4 : W4.cell? ⟨b12, 4, none⟩ = some (.bool true) := HR12.out.cell 4
          have f5 : W4.cell? ⟨b12, 5, none⟩ = some (.int .i64 2) := HR12.out.cell 5
          have t0 : W4.cell? ⟨b13, 0, none⟩ = some (.int .i64 0) := HR13.out.cell 0
          have t1 : W4.cell? ⟨b13, 1, none⟩ = some (.int .u64 0) := HR13.out.cell 1
          have t2 : W4.cell? ⟨b13, 2, none⟩ = some (.int .u64 0) := HR13.out.cell 2
          go_upto_region 15 with fail
          go_region
          all_goals
            obtain ⟨Wx, hWx⟩ : ∃ Wx, Wx = W4.drew := ⟨_, rfl⟩
            rw [← hWx]
            have HRX := Lib.hid (show Row Wx b13 #[.int .i64 0, .int .u64 0, .int .u64 0] 36 by rw [hWx]; exact HR13.out.grows ((Grows.refl _).drew))
            have HGX := Lib.hid (show Grows W Wx by rw [hWx]; exact HG4.out.drew)
            have HG2X := Lib.hid (show Grows w2 Wx by rw [hWx]; exact HG24.out.drew)
            clear HR12 HR13 HG4 HG24 d1 l12 l13 f0 f1 f2 f3 f4 f5 t0 t1 t2 q3 q4 hWx m1 hpi htd hpg hpn
            have e5 : IntKind.u64.wrap ((g : Int) + 262144) = ((g + 262144 : Nat) : Int) := by rw [wrap_u64_small (by omega) (by have := HA.out; omega)]; omega
            go_wp2_with fail
            refine (HTW2.out _).mono ?_
            rintro _ w5 ⟨⟨v2, rfl, hv2⟩, hg5⟩
            rcases hv2 with ⟨c2, g2, rfl, hc2, _, hcc⟩ | ⟨v', g', r1', s1', x1', u1', lv', rfl, _, _, _, _, _, hA2, _⟩
            rotate_left
            · exact absurd hA2 (by omega)
            have hcc2 := hcc (by omega)
            subst hcc2
            have HR5 := Lib.hid (HRX.out.grows hg5)
            have HG5 := Lib.hid (HGX.out.trans hg5)
            have HG25 := Lib.hid (HG2X.out.trans hg5)
            clear hg5 HRX HGX HG2X HTW2 e5 hcc hc2
            have l13 := HR5.out.lt
            have t0 := (HR5.out.cell 0)
            have t1 := (HR5.out.cell 1)
            have t2 := (HR5.out.cell 2)
            have y0 := HR5.out.frozen 0
            have y1 := HR5.out.frozen 1
            have y2 := HR5.out.frozen 2
            go_upto_region 20 with fail
            clear t0 t1 t2 y0 y1 y2 l13
            obtain ⟨W6, hW6⟩ : ∃ W6, W6 = ((w5.setCell ⟨b13, 0, none⟩ (.int .i64 (fltZ kk false))).setCell ⟨b13, 1, none⟩ (.int .u64 ((g : Int) + 262144))).setCell ⟨b13, 2, none⟩ (.int .u64 g2) := ⟨_, rfl⟩
            rw [← hW6]
            have HR6 := Lib.hid (show Row W6 b13 #[.int .i64 (fltZ kk false), .int .u64 ((g : Int) + 262144), .int .u64 g2] 36 by rw [hW6]; exact row_put3' HR5.out _ _ _)
            have HG6 := Lib.hid (show Grows W W6 by rw [hW6]; exact grows_fill3 HG5.out HBW.out _ _ _)
            have HG26 := Lib.hid (show Grows w2 W6 by rw [hW6]; exact grows_fill3 HG25.out HB13.out _ _ _)
            clear hW6 HR5 HG5 HG25
            go_wp2_with fail
            refine (HTW3.out _ HG26.out).mono ?_
            rintro _ w7 ⟨⟨v3, rfl, hv3⟩, hg7⟩
            rcases hv3 with ⟨c3, g3, rfl, _, hc3, _⟩ | ⟨v', g', r1', s1', x1', u1', lv', rfl, ho', _, _, _, _, hA2, hn'⟩
            rotate_left
            · rw [none_one] at ho'
              cases ho'
            obtain ⟨_, rfl, rfl⟩ := hc3 (by decide) (by have := HA.out; omega)
            have HR7 := Lib.hid (HR6.out.grows hg7)
            have HG7 := Lib.hid (HG6.out.trans hg7)
            clear HR6 HG6 HG26 HTW3 hg7 hc3
            have l13 : ∀ x y, b13 < ((w7.alloc x).alloc y).heap.size := fun x y => (HR7.out.grows (((Grows.refl _).alloc _).alloc _)).lt
            have t0 : ∀ x y, ((w7.alloc x).alloc y).cell? ⟨b13, 0, none⟩ = some (.int .i64 (fltZ kk false)) := fun x y => (HR7.out.grows (((Grows.refl _).alloc _).alloc _)).cell 0
            have v0 : 12 ≤ fltZ kk false ∧ fltZ kk false ≤ 15 ∧ 20 ≤ fltZ kk true := by rcases HKK.out with rfl | rfl | rfl <;> decide
            have q5 : decide (12 ≤ fltZ kk false) = true := decide_eq_true v0.1
            have q6 : decide (fltZ kk false ≤ 15) = true := decide_eq_true v0.2.1
            have q7 : decide (20 ≤ fltZ kk true) = true := decide_eq_true v0.2.2
            clear v0
            generalize fltZ kk false = fa at *
            generalize fltZ kk true = fb at *
            unfold zeroF
            go_wp2_with fail
            go_ret
            exact ⟨rfl, (HG7.out.alloc _).alloc _⟩
        · rw [if_neg hp] at hon
          rcases hv with ⟨cc, g, rfl, hc, hno, _⟩ | ⟨v, g, r1, s1, x1, u1, lv, rfl, ho, hx, hr, hs, hu, hA', hng⟩
          · obtain ⟨_, rfl, rfl⟩ := hno (by decide) (by have := HA.out; omega)
            obtain ⟨pg, hpgd⟩ : ∃ pg, pg = g / 256 := ⟨_, rfl⟩
            rw [← hpgd] at hp
            have hpi : (g : Int) / 256 = (pg : Int) := by omega
            have htd : (g : Int).tdiv 256 = (pg : Int) := by rw [Int.tdiv_eq_ediv_of_nonneg (by omega)]; omega
            rw [hpi] at hpg
            have hw1 : IntKind.u64.wrap (pg : Int) = pg := wrap_u64_small (by omega) (by have := HA.out; omega)
            have hw2 : wrap64 (pg : Int) = pg := wrap64_small (by omega) (by have := HA.out; omega)
            have hnp : ¬ (pg < n ∧ pg < 32) := by have := HK.out; omega
            have v0 : fltZ kk true < 20 ↔ False := by rcases HKK.out with rfl | rfl | rfl <;> decide
            have q5 : decide (fltZ kk true < 20) = false := decide_eq_false (fun h => v0.1 h)
            clear hpgd hon hp hno v0
            unfold zeroF
            go_upto_region 13 with fail
            obtain ⟨b13, hb13⟩ : ∃ b, b = w3.heap.size + 1 := ⟨_, rfl⟩
            obtain ⟨W4, hW4⟩ : ∃ W4, W4 = (w3.alloc (Obj.cells #[.int .i64 0, .bool false, .bool false, .bool false, .bool false, .int .i64 0] 34)).alloc (Obj.cells #[.int .i64 (fltZ kk true), .int .u64 g, .int .u64 g] 36) := ⟨_, rfl⟩
            rw [← hW4, ← hb13]
            have hg34 : Grows w3 W4 := by rw [hW4]; exact ((Grows.refl _).alloc _).alloc _
            have HRX := Lib.hid (show Row W4 b13 #[.int .i64 (fltZ kk true), .int .u64 g, .int .u64 g] 36 by rw [hW4]; exact Row.new_at _ _ _ (by simp [hb13]))
            have HB13 := Lib.hid (show w2.heap.size ≤ b13 by have := HG23.out.size; omega)
            have HBW := Lib.hid (show W.heap.size ≤ b13 by have := HG3.out.size; omega)
            have HGX := Lib.hid (HG3.out.trans hg34)
            have HG2X := Lib.hid (HG23.out.trans hg34)
            clear hW4 hb13 HG3 HG23 hg34
            have l13 := HRX.out.lt
            have t0 : W4.cell? ⟨b13, 0, none⟩ = some (.int .i64 (fltZ kk true)) := HRX.out.cell 0
            have t1 : W4.cell? ⟨b13, 1, none⟩ = some (.int .u64 g) := HRX.out.cell 1
            have t2 : W4.cell? ⟨b13, 2, none⟩ = some (.int .u64 g) := HRX.out.cell 2
            by_cases hp1 : pg < n
            · have q3 : decide ((pg : Int) < 32) = false := decide_eq_false (by omega)
              go_upto_region 19 with fail
              clear t0 t1 t2 l13 hp1 hnp q3 hpi htd hpg q5 hw1 hw2
              have e5 : IntKind.u64.wrap ((g : Int) + 262144) = ((g + 262144 : Nat) : Int) := by rw [wrap_u64_small (by omega) (by have := HA.out; omega)]; omega
              go_wp2_with fail
              refine (HTW2.out _).mono ?_
              rintro _ w5 ⟨⟨v2, rfl, hv2⟩, hg5⟩
              rcases hv2 with ⟨c2, g2, rfl, hc2, _, hcc⟩ | ⟨v', g', r1', s1', x1', u1', lv', rfl, _, _, _, _, _, hA2, _⟩
              rotate_left
              · exact absurd hA2 (by omega)
              have hcc2 := hcc (by omega)
              subst hcc2
              have HR5 := Lib.hid (HRX.out.grows hg5)
              have HG5 := Lib.hid (HGX.out.trans hg5)
              have HG25 := Lib.hid (HG2X.out.trans hg5)
              clear hg5 HRX HGX HG2X HTW2 e5 hcc hc2
              have l13 := HR5.out.lt
              have t0 := (HR5.out.cell 0)
              have t1 := (HR5.out.cell 1)
              have t2 := (HR5.out.cell 2)
              have y0 := HR5.out.frozen 0
              have y1 := HR5.out.frozen 1
              have y2 := HR5.out.frozen 2
              go_upto_region 20 with fail
              clear t0 t1 t2 y0 y1 y2 l13
              obtain ⟨W6, hW6⟩ : ∃ W6, W6 = ((w5.setCell ⟨b13, 0, none⟩ (.int .i64 (fltZ kk false))).setCell ⟨b13, 1, none⟩ (.int .u64 ((g : Int) + 262144))).setCell ⟨b13, 2, none⟩ (.int .u64 g2) := ⟨_, rfl⟩
              rw [← hW6]
              have HR6 := Lib.hid (show Row W6 b13 #[.int .i64 (fltZ kk false), .int .u64 ((g : Int) + 262144), .int .u64 g2] 36 by rw [hW6]; exact row_put3' HR5.out _ _ _)
              have HG6 := Lib.hid (show Grows W W6 by rw [hW6]; exact grows_fill3 HG5.out HBW.out _ _ _)
              have HG26 := Lib.hid (show Grows w2 W6 by rw [hW6]; exact grows_fill3 HG25.out HB13.out _ _ _)
              clear hW6 HR5 HG5 HG25
              go_wp2_with fail
              refine (HTW3.out _ HG26.out).mono ?_
              rintro _ w7 ⟨⟨v3, rfl, hv3⟩, hg7⟩
              rcases hv3 with ⟨c3, g3, rfl, _, hc3, _⟩ | ⟨v', g', r1', s1', x1', u1', lv', rfl, ho', _, _, _, _, hA2, hn'⟩
              rotate_left
              · rw [none_one] at ho'
                cases ho'
              obtain ⟨_, rfl, rfl⟩ := hc3 (by decide) (by have := HA.out; omega)
              have HR7 := Lib.hid (HR6.out.grows hg7)
              have HG7 := Lib.hid (HG6.out.trans hg7)
              clear HR6 HG6 HG26 HTW3 hg7 hc3
              have l13 : ∀ x y, b13 < ((w7.alloc x).alloc y).heap.size := fun x y => (HR7.out.grows (((Grows.refl _).alloc _).alloc _)).lt
              have t0 : ∀ x y, ((w7.alloc x).alloc y).cell? ⟨b13, 0, none⟩ = some (.int .i64 (fltZ kk false)) := fun x y => (HR7.out.grows (((Grows.refl _).alloc _).alloc _)).cell 0
              have v0 : 12 ≤ fltZ kk false ∧ fltZ kk false ≤ 15 ∧ 20 ≤ fltZ kk true := by rcases HKK.out with rfl | rfl | rfl <;> decide
              have q5 : decide (12 ≤ fltZ kk false) = true := decide_eq_true v0.1
              have q6 : decide (fltZ kk false ≤ 15) = true := decide_eq_true v0.2.1
              have q7 : decide (20 ≤ fltZ kk true) = true := decide_eq_true v0.2.2
              clear v0
              generalize fltZ kk false = fa at *
              generalize fltZ kk true = fb at *
              unfold zeroF
              go_wp2_with fail
              go_ret
              exact ⟨rfl, (HG7.out.alloc _).alloc _⟩
            · have q3 : decide ((pg : Int) < (n : Int)) = false := decide_eq_false (by omega)
              go_upto_region 19 with fail
              clear t0 t1 t2 l13 hp1 hnp q3 hpi htd hpg q5 hw1 hw2
              have e5 : IntKind.u64.wrap ((g : Int) + 262144) = ((g + 262144 : Nat) : Int) := by rw [wrap_u64_small (by omega) (by have := HA.out; omega)]; omega
              go_wp2_with fail
              refine (HTW2.out _).mono ?_
              rintro _ w5 ⟨⟨v2, rfl, hv2⟩, hg5⟩
              rcases hv2 with ⟨c2, g2, rfl, hc2, _, hcc⟩ | ⟨v', g', r1', s1', x1', u1', lv', rfl, _, _, _, _, _, hA2, _⟩
              rotate_left
              · exact absurd hA2 (by omega)
              have hcc2 := hcc (by omega)
              subst hcc2
              have HR5 := Lib.hid (HRX.out.grows hg5)
              have HG5 := Lib.hid (HGX.out.trans hg5)
              have HG25 := Lib.hid (HG2X.out.trans hg5)
              clear hg5 HRX HGX HG2X HTW2 e5 hcc hc2
              have l13 := HR5.out.lt
              have t0 := (HR5.out.cell 0)
              have t1 := (HR5.out.cell 1)
              have t2 := (HR5.out.cell 2)
              have y0 := HR5.out.frozen 0
              have y1 := HR5.out.frozen 1
              have y2 := HR5.out.frozen 2
              go_upto_region 20 with fail
              clear t0 t1 t2 y0 y1 y2 l13
              obtain ⟨W6, hW6⟩ : ∃ W6, W6 = ((w5.setCell ⟨b13, 0, none⟩ (.int .i64 (fltZ kk false))).setCell ⟨b13, 1, none⟩ (.int .u64 ((g : Int) + 262144))).setCell ⟨b13, 2, none⟩ (.int .u64 g2) := ⟨_, rfl⟩
              rw [← hW6]
              have HR6 := Lib.hid (show Row W6 b13 #[.int .i64 (fltZ kk false), .int .u64 ((g : Int) + 262144), .int .u64 g2] 36 by rw [hW6]; exact row_put3' HR5.out _ _ _)
              have HG6 := Lib.hid (show Grows W W6 by rw [hW6]; exact grows_fill3 HG5.out HBW.out _ _ _)
              have HG26 := Lib.hid (show Grows w2 W6 by rw [hW6]; exact grows_fill3 HG25.out HB13.out _ _ _)
              clear hW6 HR5 HG5 HG25
              go_wp2_with fail
              refine (HTW3.out _ HG26.out).mono ?_
              rintro _ w7 ⟨⟨v3, rfl, hv3⟩, hg7⟩
              rcases hv3 with ⟨c3, g3, rfl, _, hc3, _⟩ | ⟨v', g', r1', s1', x1', u1', lv', rfl, ho', _, _, _, _, hA2, hn'⟩
              rotate_left
              · rw [none_one] at ho'
                cases ho'
              obtain ⟨_, rfl, rfl⟩ := hc3 (by decide) (by have := HA.out; omega)
              have HR7 := Lib.hid (HR6.out.grows hg7)
              have HG7 := Lib.hid (HG6.out.trans hg7)
              clear HR6 HG6 HG26 HTW3 hg7 hc3
              have l13 : ∀ x y, b13 < ((w7.alloc x).alloc y).heap.size := fun x y => (HR7.out.grows (((Grows.refl _).alloc _).alloc _)).lt
              have t0 : ∀ x y, ((w7.alloc x).alloc y).cell? ⟨b13, 0, none⟩ = some (.int .i64 (fltZ kk false)) := fun x y => (HR7.out.grows (((Grows.refl _).alloc _).alloc _)).cell 0
              have v0 : 12 ≤ fltZ kk false ∧ fltZ kk false ≤ 15 ∧ 20 ≤ fltZ kk true := by rcases HKK.out with rfl | rfl | rfl <;> decide
              have q5 : decide (12 ≤ fltZ kk false) = true := decide_eq_true v0.1
              have q6 : decide (fltZ kk false ≤ 15) = true := decide_eq_true v0.2.1
              have q7 : decide (20 ≤ fltZ kk true) = true := decide_eq_true v0.2.2
              clear v0
              generalize fltZ kk false = fa at *
              generalize fltZ kk true = fb at *
              unfold zeroF
              go_wp2_with fail
              go_ret
              exact ⟨rfl, (HG7.out.alloc _).alloc _⟩
          · obtain ⟨_, _, _, rfl, _⟩ := hng (by decide)
            rw [hon] at ho
            cases ho
end
end Go.Proofs.YtnkmelhggnelmaaDoor
