/- What the functions of the package frames answer, that change nothing or one number. -/
import Derived.Test.YtlchlklbjocliaaDoorFrA
import Derived.BigQuiet
namespace Go.Proofs.YtlchlklbjocliaaDoor
open Go Go.RowKit
set_option linter.unusedSimpArgs false
set_option linter.unusedVariables false
set_option maxRecDepth 100000
theorem none_ok {w : World} {p bt bw n first low : Nat} {T O : Nat → Nat} {quo : Nat → Int} (h : FrAt w p bt bw n first T O quo low) :
    Calls Tryd.prog 62 #[.pointer (some ⟨p, 0, none⟩)] w fun r w' => r = .returned (.bool false) ∧ w' = w := by
  obtain ⟨c0, c1, c2, c3, c4⟩ := h.row.cells
  have hb := eqlSome bt
  clear h
  go_enter Tryd.func62, Tryd.ntmps62
  go_wp2_with fail
  go_ret
  exact ⟨rfl, rfl⟩
def isOwn (x : Int) : Prop := 0 ≤ x ∧ x < 17
instance (x : Int) : Decidable (isOwn x) := inferInstanceAs (Decidable (_ ∧ _))
theorem isOwner_is (i : Int) (w : World) : Calls Tryd.prog 63 #[.int .i64 i] w fun r w' => r = .returned (.bool (decide (isOwn i))) ∧ w' = w := isOwner_any i w
/-- All are owners, or the first that is none tells. -/
theorem owned_any {w : World} {p bt bw n first low : Nat} {T O : Nat → Nat} {quo : Nat → Int} (h : FrAt w p bt bw n first T O quo low) (b m : Nat) (f : Nat → Int) (hm : m ≤ 9) (hf : ∀ i, i < m → w.cell? ⟨b, i, none⟩ = some (.int .i64 (f i))) :
    Calls Tryd.prog 68 #[.pointer (some ⟨p, 0, none⟩), .slice (some ⟨b, 0, none⟩) m m] w fun r w' => (((∀ i, i < m → isOwn (f i)) ∧ r = .returned (.int .i64 0)) ∨ (∃ i, i < m ∧ ¬ isOwn (f i)) ∧ r = .returned (.int .i64 2)) ∧ w' = w := by
  have hno := none_ok h
  clear h
  go_enter Tryd.func68, Tryd.ntmps68
  go_wp2_with fail
  refine hno.mono ?_
  rintro _ _ ⟨rfl, hw⟩
  rw [hw]
  clear hw hno
  go_wp2_with fail
  go_loopw [11] (fun i wr => ∃ k : Nat, k ≤ m ∧ i = .int .i64 k ∧ (∀ j, j < k → isOwn (f j)) ∧ wr = w) (fun i _ => (m - intOf i).toNat)
  case atStart => exact ⟨0, by omega, rfl, fun j hj => absurd hj (by omega), rfl⟩
  case round =>
    obtain ⟨k, hk, rfl, hall, rfl⟩ := hrel
    by_cases hlt : k < m
    · have c0 := hf k hlt
      have hio := isOwner_is (f k) wr
      by_cases ho : isOwn (f k)
      · rw [decide_eq_true ho] at hio
        have HA : Hid (∀ j, j < k + 1 → isOwn (f j)) := Lib.hid fun j hj => by
          by_cases e : j = k
          · rw [e]; exact ho
          · exact hall j (by omega)
        generalize f k = x at *
        clear hf hall ho
        go_wp2_with fail
        refine hio.mono ?_
        rintro _ _ ⟨rfl, hw⟩
        rw [hw]
        clear hw hio
        go_wp2_with fail
        exact ⟨⟨k + 1, by omega, by simp, HA.out, by trivial⟩, by simp [intOf]; omega⟩
      · rw [decide_eq_false ho] at hio
        have HA : Hid (∃ i, i < m ∧ ¬ isOwn (f i)) := Lib.hid ⟨k, hlt, ho⟩
        generalize f k = x at *
        clear hf hall ho
        go_wp2_with fail
        refine hio.mono ?_
        rintro _ _ ⟨rfl, hw⟩
        rw [hw]
        clear hw hio
        go_wp2_with fail
        go_ret
        exact ⟨Or.inr ⟨HA.out, by trivial⟩, rfl⟩
    · have : m = k := by omega
      subst this
      have HA := Lib.hid hall
      clear hf hall
      go_wp2_with fail
      go_ret
      exact ⟨Or.inl ⟨HA.out, by trivial⟩, rfl⟩
theorem owned_1 {w : World} {p bt bw n first low b : Nat} {T O : Nat → Nat} {quo : Nat → Int} (h : FrAt w p bt bw n first T O quo low) (x : Int) (hx : w.cell? ⟨b, 0, none⟩ = some (.int .i64 x)) :
    Calls Tryd.prog 68 #[.pointer (some ⟨p, 0, none⟩), .slice (some ⟨b, 0, none⟩) 1 1] w fun r w' => r = .returned (.int .i64 (if isOwn x then 0 else 2)) ∧ w' = w := by
  refine (owned_any h b 1 (fun _ => x) (by omega) (fun i hi => by
    obtain rfl : i = 0 := by omega
    exact hx)).mono ?_
  rintro r _ ⟨⟨h1, rfl⟩ | ⟨⟨i, _, h1⟩, rfl⟩, rfl⟩
  · rw [if_pos (h1 0 (by omega))]; exact ⟨rfl, rfl⟩
  · rw [if_neg h1]; exact ⟨rfl, rfl⟩
theorem owned_2 {w : World} {p bt bw n first low b : Nat} {T O : Nat → Nat} {quo : Nat → Int} (h : FrAt w p bt bw n first T O quo low) (x y : Int) (hx : w.cell? ⟨b, 0, none⟩ = some (.int .i64 x)) (hy : w.cell? ⟨b, 1, none⟩ = some (.int .i64 y)) :
    Calls Tryd.prog 68 #[.pointer (some ⟨p, 0, none⟩), .slice (some ⟨b, 0, none⟩) 2 2] w fun r w' => r = .returned (.int .i64 (if isOwn x ∧ isOwn y then 0 else 2)) ∧ w' = w := by
  refine (owned_any h b 2 (fun i => if i = 0 then x else y) (by omega) (fun i hi => by
    have : i = 0 ∨ i = 1 := by omega
    rcases this with rfl | rfl
    · exact hx
    · exact hy)).mono ?_
  rintro r _ ⟨⟨h1, rfl⟩ | ⟨⟨i, hi, h1⟩, rfl⟩, rfl⟩
  · rw [if_pos ⟨h1 0 (by omega), h1 1 (by omega)⟩]; exact ⟨rfl, rfl⟩
  · rw [if_neg (fun hh => h1 (by by_cases e : i = 0 <;> simp [e, hh.1, hh.2]))]; exact ⟨rfl, rfl⟩
def ownI (n : Nat) (T O : Nat → Nat) (x : Int) : Nat := if isOwn x then ownC n T O x.toNat else 0
theorem Count_any {w : World} {p bt bw n first low : Nat} {T O : Nat → Nat} {quo : Nat → Int} (h : FrAt w p bt bw n first T O quo low) (x : Int) :
    Calls Tryd.prog 24 #[.pointer (some ⟨p, 0, none⟩), .int .i64 x] w fun r w' => r = .returned (.tuple #[.int .i64 (ownI n T O x : Nat), .int .i64 ((n : Int) - heldC n T)]) ∧ Grows w w' := by
  have hno := none_ok h
  have hio := isOwner_is x w
  obtain ⟨c0, c1, c2, c3, c4⟩ := h.row.cells
  have l1 := h.row.lt
  have hle : heldC n T ≤ n := cn_le
  have hlen : ∀ ty g, (Builtin.len_ #[29] ty #[.map (some bt)]).run Tryd.prog (w.grow g) = .ok (.int .i64 (heldC n T : Nat)) (w.grow g) := fun ty g => (h.grows (Grows.of w g)).len_t ty
  have hn := h.n2
  unfold ownI
  by_cases ho : isOwn x
  · rw [decide_eq_true ho] at hio
    obtain ⟨o, rfl, ho17⟩ : ∃ o : Nat, x = o ∧ o < 17 := ⟨x.toNat, by unfold isOwn at ho; omega, by unfold isOwn at ho; omega⟩
    rw [if_pos ho, Int.toNat_natCast]
    have co := h.row.own ho17
    generalize ownC n T O o = v at *
    generalize heldC n T = hc at *
    clear h ho
    go_enter Tryd.func24, Tryd.ntmps24
    go_wp2_with fail
    refine hno.mono ?_
    rintro _ _ ⟨rfl, hw⟩
    rw [hw]
    clear hw hno
    go_wp2_with fail
    refine hio.mono ?_
    rintro _ _ ⟨rfl, hw⟩
    rw [hw]
    clear hw hio
    go_wp2_with fail
    refine wp_region_grow (by kernel_rfl) (by kernel_rfl) ?_
    repeat (go_big_quiet_step ((fail)))
    refine wpQuiet_nil ?_
    intro _ hw'
    obtain ⟨gg, rfl⟩ := hw'
    go_wp2_with fail
    go_ret2
    exact ⟨rfl, Grows.of w gg⟩
  · rw [decide_eq_false ho] at hio
    rw [if_neg ho]
    generalize heldC n T = hc at *
    clear h ho
    go_enter Tryd.func24, Tryd.ntmps24
    go_wp2_with fail
    refine hno.mono ?_
    rintro _ _ ⟨rfl, hw⟩
    rw [hw]
    clear hw hno
    go_wp2_with fail
    refine hio.mono ?_
    rintro _ _ ⟨rfl, hw⟩
    rw [hw]
    clear hw hio
    go_wp2_with fail
    refine wp_region_grow (by kernel_rfl) (by kernel_rfl) ?_
    repeat (go_big_quiet_step ((fail)))
    refine wpQuiet_nil ?_
    intro _ hw'
    obtain ⟨gg, rfl⟩ := hw'
    go_wp2_with fail
    go_ret2
    exact ⟨rfl, Grows.of w gg⟩
theorem Quota_bad {w : World} {p bt bw n first low : Nat} {T O : Nat → Nat} {quo : Nat → Int} (h : FrAt w p bt bw n first T O quo low) (x q : Int) (hb : ¬ isOwn x ∨ q < 0) :
    Calls Tryd.prog 43 #[.pointer (some ⟨p, 0, none⟩), .int .i64 x, .int .i64 q] w fun r w' => r = .returned (.int .i64 2) ∧ Grows w w' := by
  have hg : Grows w (w.alloc (Obj.cells #[.int .i64 x] 3)) := (Grows.refl _).alloc _
  have ho := owned_1 (b := w.heap.size) (h.grows hg) x ((Row.new w #[Value.int .i64 x] 3).cell 0)
  by_cases hx : isOwn x
  · have hq : q < 0 := by
      rcases hb with hb | hb
      · exact absurd hx hb
      · exact hb
    rw [if_pos hx] at ho
    clear h hx hb
    go_enter Tryd.func43, Tryd.ntmps43
    go_wp2_with fail
    refine (ho).mono ?_
    rintro _ _ ⟨rfl, hw⟩
    rw [hw]
    clear hw
    go_wp2_with fail
    go_ret
    exact ⟨rfl, hg⟩
  · rw [if_neg hx] at ho
    clear h hx hb
    go_enter Tryd.func43, Tryd.ntmps43
    go_wp2_with fail
    refine (ho).mono ?_
    rintro _ _ ⟨rfl, hw⟩
    rw [hw]
    clear hw
    go_wp2_with fail
    go_ret
    exact ⟨rfl, hg⟩
theorem Quota_ok {w : World} {p bt bw n first low o : Nat} {T O : Nat → Nat} {quo : Nat → Int} (h : FrAt w p bt bw n first T O quo low) (ho17 : o < 17) {q : Int} (hq : 0 ≤ q) :
    Calls Tryd.prog 43 #[.pointer (some ⟨p, 0, none⟩), .int .i64 o, .int .i64 q] w fun r w' => r = .returned (.int .i64 0) ∧ FrAt w' p bt bw n first T O (fun j => if j = o then q else quo j) low ∧ Chg [p] w w' := by
  have hg : Grows w (w.alloc (Obj.cells #[.int .i64 o] 3)) := (Grows.refl _).alloc _
  have ho := owned_1 (b := w.heap.size) (h.grows hg) o ((Row.new w #[Value.int .i64 o] 3).cell 0)
  rw [if_pos (show isOwn (o : Int) from ⟨by omega, by omega⟩)] at ho
  obtain ⟨w1, hw1⟩ : ∃ w1, w1 = w.alloc (Obj.cells #[.int .i64 o] 3) := ⟨_, rfl⟩
  have H1 : Hid (FrAt w1 p bt bw n first T O quo low) := by show FrAt _ _ _ _ _ _ _ _ _ _; rw [hw1]; exact h.grows hg
  have HG : Hid (Grows w w1) := by show Grows _ _; rw [hw1]; exact hg
  rw [← hw1] at ho
  have dq : decide (q < 0) = false := decide_eq_false (by omega)
  obtain ⟨c0, c1, c2, c3, c4⟩ := H1.out.row.cells
  have co := H1.out.row.quo ho17
  have f1 := H1.out.row.frozen (21 + o)
  have HW := Lib.hid hw1
  clear h hg
  go_enter Tryd.func43, Tryd.ntmps43
  go_wp2_with fail
  rw [← hw1]
  clear hw1
  refine (ho).mono ?_
  rintro _ _ ⟨rfl, hw⟩
  rw [hw]
  clear hw
  go_wp2_with fail
  go_ret
  have h2 := H1.out.row.setQuo ho17 q
  have hne := H1.out.ne
  have hc : Chg [p] w1 (w1.setCell ⟨p, 21 + o, none⟩ (.int .i64 q)) := (Chg.refl _ _).setCell (Or.inl (by simp)) _ _
  obtain ⟨s, g, g1, g2, g3⟩ := H1.out.wh
  exact ⟨rfl, ⟨h2, IMap.chg' H1.out.tm hc (by simp; omega), ⟨s, g, g1, IMap.chg' g2 hc (by simp; omega), g3⟩, H1.out.n1, H1.out.n2, H1.out.fl, H1.out.lo, H1.out.below, H1.out.ob, H1.out.tb, hne⟩, (Chg.of_grows HG.out).trans hc⟩
end Go.Proofs.YtlchlklbjocliaaDoor
