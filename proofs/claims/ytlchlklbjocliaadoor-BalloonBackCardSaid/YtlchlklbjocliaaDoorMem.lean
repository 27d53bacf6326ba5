/- A memory: what none, Frames, part, number of the package mem compute; a new one. -/
import Derived.Test.YtlchlklbjocliaaDoorProg
import Derived.Test.YtlchlklbjocliaaDoorBase
import Derived.Test.YtlchlklbjocliaaDoorNum
import Derived.Test.YtlchlklbjocliaaDoorBytes
import Derived.Test.YtlchlklbjocliaaDoorSrc
import Derived.Test.YtlchlklbjocliaaDoorBtsOps
import Derived.Lib.Hide
import Derived.StillTailTactics
namespace Go.Proofs.YtlchlklbjocliaaDoor
open Go Go.RowKit
set_option linter.unusedSimpArgs false
set_option linter.unusedVariables false
set_option maxRecDepth 100000
/-- A struct at p whose one field is a slice of n bytes B, in the block q. -/
structure MemAt (t : TypeId) (w : World) (p q n : Nat) (B : Nat → Nat) : Prop where
  hd : ∃ c, n ≤ c ∧ c ≤ 9223372036854775807 ∧ Row w p #[.slice (some ⟨q, 0, none⟩) n c] t
  bts : Bts w q n B
  hn : n ≤ 16777216
  h0 : 0 < n
theorem MemAt.chg {t : TypeId} {S : List Nat} {w w' : World} {p q n : Nat} {B : Nat → Nat} (h : MemAt t w p q n B) (hc : Chg S w w') (hp : p ∉ S) (hq : q ∉ S) : MemAt t w' p q n B := by
  obtain ⟨⟨c, h1, h2, h3⟩, h4, h5, h6⟩ := h
  exact ⟨⟨c, h1, h2, h3.chg hc hp⟩, h4.chg hc hq, h5, h6⟩
theorem MemAt.grows {t : TypeId} {w w' : World} {p q n : Nat} {B : Nat → Nat} (h : MemAt t w p q n B) (hg : Grows w w') : MemAt t w' p q n B := h.chg (S := []) (Chg.of_grows hg) (by simp) (by simp)
theorem MemAt.ne {t : TypeId} {w : World} {p q n : Nat} {B : Nat → Nat} (h : MemAt t w p q n B) : p ≠ q := by
  intro e
  obtain ⟨⟨c, h1, h2, h3⟩, h4, h5, h6⟩ := h
  have := h4.cell h6
  rw [← e, h3.cell] at this
  simp at this
theorem MemAt.upd {t : TypeId} {w w' : World} {p q n : Nat} {B C : Nat → Nat} (h : MemAt t w p q n B) (hc : Chg [q] w w') (hb : Bts w' q n C) : MemAt t w' p q n C := by
  have hne := h.ne
  obtain ⟨⟨c, h1, h2, h3⟩, h4, h5, h6⟩ := h
  exact ⟨⟨c, h1, h2, h3.chg hc (by simpa using hne)⟩, hb, h5, h6⟩
theorem MemAt.plt {t : TypeId} {w : World} {p q n : Nat} {B : Nat → Nat} (h : MemAt t w p q n B) : p < w.heap.size := by
  obtain ⟨⟨c, h1, h2, h3⟩, h4, h5⟩ := h
  exact h3.lt
theorem MemAt.qlt {t : TypeId} {w : World} {p q n : Nat} {B : Nat → Nat} (h : MemAt t w p q n B) : q < w.heap.size := h.bts.blt
theorem MemAt.congr {t : TypeId} {w : World} {p q n : Nat} {B C : Nat → Nat} (h : MemAt t w p q n B) (he : ∀ i, i < n → B i = C i) : MemAt t w p q n C :=
  ⟨h.hd, h.bts.congr he, h.hn, h.h0⟩
abbrev Mem := MemAt 121
/-- What is wrong with k bytes from a place on. -/
def partE (n at_ : Nat) (k : Int) : Int := if k < 0 then 2 else if k ≤ n ∧ (at_ : Int) ≤ n - k then 0 else 12
/-- What is wrong with a number there. -/
def numE (n at_ : Nat) (width : Int) : Int := if knownB width = false then 2 else if (at_ : Int) % width ≠ 0 then 11 else partE n at_ width
theorem zero_u8 : ∀ w, (zeroValue 5).run Tryd.prog w = .ok (.int .u8 0) w := fun _ => by kernel_rfl
theorem size_u8 : (Tryd.prog.info? 5).map (·.size) = some 1 := by kernel_rfl
theorem run_make_u8 (F : Nat) (hF : F ≤ 65536) (w : World) : (Instr.makeSlice 70 (.int .i64 ((F : Int) * 256)) (.int .i64 ((F : Int) * 256))).run Tryd.prog w =
    .ok (.slice (some ⟨w.heap.size, 0, none⟩) (F * 256) (F * 256)) (w.alloc (.cells (madeCells #[.int .u8 0] (F * 256)) 5)) := by
  obtain ⟨i0, hi, hz0, hz1, hz2⟩ := info_parts info_u8
  have h := run_make (P := Tryd.prog) w 70 5 i0 (.int .u8 0) Tryd.underlying70 hi hz0 .i64 .i64 ((F : Int) * 256) ((F : Int) * 256) (by omega) (by omega) (by rw [hz2]; omega) (by omega)
  rw [h, hz1]
  have e : ((F : Int) * 256).toNat = F * 256 := by omega
  rw [e, Nat.mul_one]
  rfl
theorem nil_no {q n c : Nat} (w : World) : (binOp .eql 70 (.slice (some ⟨q, 0, none⟩) n c) (.slice none 0 0)).run Tryd.prog w = .ok (.bool false) w :=
  Lib.run_eql_slice_nil w 70 5 _ n c 0 0 Tryd.underlying70
theorem nil_no' {b o n c : Nat} (w : World) : (binOp .eql 70 (.slice (some ⟨b, o, none⟩) n c) (.slice none 0 0)).run Tryd.prog w = .ok (.bool false) w :=
  Lib.run_eql_slice_nil w 70 5 _ n c 0 0 Tryd.underlying70
theorem new_bad (F : Int) (hF : F < 1 ∨ 65536 < F) (w : World) :
    Calls Tryd.prog 19 #[.int .i64 F] w fun r w' => r = .returned (.tuple #[.pointer none, .int .i64 2]) ∧ Grows w w' := by
  by_cases h : F < 1
  · go_enter Tryd.func19, Tryd.ntmps19
    go_wp2_with fail
    go_ret2
    exact ⟨rfl, Grows.refl _⟩
  · have h2 : 65536 < F := by omega
    clear hF
    go_enter Tryd.func19, Tryd.ntmps19
    go_wp2_with fail
    go_ret2
    exact ⟨rfl, Grows.refl _⟩
theorem new_ok (F : Nat) (h1 : 1 ≤ F) (h2 : F ≤ 65536) (w : World) :
    Calls Tryd.prog 19 #[.int .i64 F] w fun r w' => ∃ p q, r = .returned (.tuple #[.pointer (some ⟨p, 0, none⟩), .int .i64 0]) ∧ Mem w' p q (F * 256) (fun _ => 0) ∧ Grows w w' ∧ w.heap.size ≤ p ∧ w.heap.size ≤ q ∧ q < p := by
  have hmk := run_make_u8 F h2
  go_enter Tryd.func19, Tryd.ntmps19
  go_wp2_with fail
  go_ret2
  have hb : Bts (w.alloc (Obj.cells (madeCells #[Value.int .u8 0] (F * 256)) 5)) w.heap.size (F * 256) (fun _ => 0) := Bts.made w _ _
  exact ⟨w.heap.size + 1, w.heap.size, rfl, ⟨⟨F * 256, Nat.le_refl _, by omega, Row.new_at _ _ _ (by simp)⟩, hb.grows ((Grows.refl _).alloc _), by omega, by omega⟩, ((Grows.refl _).alloc _).alloc _, by omega, Nat.le_refl _, by omega⟩
theorem none_any {p q n : Nat} {B : Nat → Nat} {w : World} (h : Mem w p q n B) :
    Calls Tryd.prog 80 #[.pointer (some ⟨p, 0, none⟩)] w fun r w' => r = .returned (.bool false) ∧ w' = w := by
  obtain ⟨⟨c, h1, h2, h3⟩, h4, h5⟩ := h
  have c0 : w.cell? ⟨p, 0, none⟩ = some (.slice (some ⟨q, 0, none⟩) n c) := h3.cell 0
  have e0 := nil_no (q := q) (n := n) (c := c)
  go_enter Tryd.func80, Tryd.ntmps80
  go_wp2_with fail
  go_ret
  exact ⟨rfl, rfl⟩
theorem frames_any {p q n : Nat} {B : Nat → Nat} {w : World} (h : Mem w p q n B) :
    Calls Tryd.prog 50 #[.pointer (some ⟨p, 0, none⟩)] w fun r w' => r = .returned (.int .i64 (n / 256 : Nat)) ∧ w' = w := by
  have hno := none_any h
  obtain ⟨⟨c, h1, h2, h3⟩, h4, h5, h6⟩ := h
  have c0 : w.cell? ⟨p, 0, none⟩ = some (.slice (some ⟨q, 0, none⟩) n c) := h3.cell 0
  go_enter Tryd.func50, Tryd.ntmps50
  go_wp2_with fail
  refine hno.mono ?_
  rintro _ _ ⟨rfl, rfl⟩
  go_wp2_with fail
  go_ret
  exact ⟨by simp, rfl⟩
theorem within_any {p q n : Nat} {B : Nat → Nat} {w : World} (h : Mem w p q n B) (bk bm ba A : Nat) (k : Int) (hk : 0 ≤ k) (hk2 : k ≤ 9223372036854775807) (hA : A < 18446744073709551616)
    (ck : w.cell? ⟨bk, 0, none⟩ = some (.int .i64 k)) (cm : w.cell? ⟨bm, 0, none⟩ = some (.pointer (some ⟨p, 0, none⟩))) (ca : w.cell? ⟨ba, 0, none⟩ = some (.int .u64 A))
    (lk : bk < w.heap.size) (lm : bm < w.heap.size) (la : ba < w.heap.size) :
    Calls Tryd.prog 91 #[.pointer (some ⟨bk, 0, none⟩), .pointer (some ⟨bm, 0, none⟩), .pointer (some ⟨ba, 0, none⟩)] w fun r w' => r = .returned (.bool (decide (k ≤ n ∧ (A : Int) ≤ n - k))) ∧ Grows w w' := by
  have lp := h.plt
  obtain ⟨⟨c, h1, h2, h3⟩, h4, h5, h6⟩ := h
  have c0 : w.cell? ⟨p, 0, none⟩ = some (.slice (some ⟨q, 0, none⟩) n c) := h3.cell 0
  clear h3 h4
  by_cases hkn : k ≤ n
  · have e2 : IntKind.u64.wrap ((n : Int) - k) = (n : Int) - k := wrap_u64_small (by omega) (by omega)
    have d1 : decide (k ≤ (n : Int)) = true := decide_eq_true hkn
    by_cases hA2 : (A : Int) ≤ n - k
    · go_enter Tryd.func91, Tryd.ntmps91
      go_wp2_with fail
      refine wp_region_grow (by kernel_rfl) (by kernel_rfl) ?_
      repeat (go_big_quiet_step (fail))
      refine wpQuiet_nil ?_
      intro _ hw'
      obtain ⟨g1, rfl⟩ := hw'
      go_wp2_with fail
      go_ret
      exact ⟨by simp; omega, Grows.of _ _⟩
    · go_enter Tryd.func91, Tryd.ntmps91
      go_wp2_with fail
      refine wp_region_grow (by kernel_rfl) (by kernel_rfl) ?_
      repeat (go_big_quiet_step (fail))
      refine wpQuiet_nil ?_
      intro _ hw'
      obtain ⟨g1, rfl⟩ := hw'
      go_wp2_with fail
      go_ret
      exact ⟨by simp; omega, Grows.of _ _⟩
  · have d1 : decide (k ≤ (n : Int)) = false := decide_eq_false hkn
    go_enter Tryd.func91, Tryd.ntmps91
    go_wp2_with fail
    refine wp_region_grow (by kernel_rfl) (by kernel_rfl) ?_
    repeat (go_big_quiet_step (fail))
    refine wpQuiet_nil ?_
    intro _ hw'
    obtain ⟨g1, rfl⟩ := hw'
    go_wp2_with fail
    go_ret
    exact ⟨by simp; omega, Grows.of _ _⟩
theorem part_neg {p q n : Nat} {B : Nat → Nat} {w : World} (h : Mem w p q n B) (A : Nat) (k : Int) (hk : k < 0) :
    Calls Tryd.prog 66 #[.pointer (some ⟨p, 0, none⟩), .int .u64 A, .int .i64 k] w fun r w' => r = .returned (.tuple #[.slice none 0 0, .int .i64 2]) ∧ Grows w w' := by
  have hno := fun w' (hg : Grows w w') => none_any (h.grows hg)
  have lp := h.plt
  go_enter Tryd.func66, Tryd.ntmps66
  go_wp2_with fail
  refine (hno _ ((((Grows.refl _).alloc _).alloc _).alloc _)).mono ?_
  rintro _ _ ⟨rfl, rfl⟩
  go_wp2_with fail
  go_ret2
  exact ⟨rfl, (((Grows.refl _).alloc _).alloc _).alloc _⟩
theorem part_no {p q n : Nat} {B : Nat → Nat} {w : World} (h : Mem w p q n B) (A : Nat) (k : Int) (hk : 0 ≤ k) (hk2 : k ≤ 9223372036854775807) (hA : A < 18446744073709551616) (hn : ¬ (k ≤ n ∧ (A : Int) ≤ n - k)) :
    Calls Tryd.prog 66 #[.pointer (some ⟨p, 0, none⟩), .int .u64 A, .int .i64 k] w fun r w' => r = .returned (.tuple #[.slice none 0 0, .int .i64 12]) ∧ Grows w w' := by
  have hno := fun w' (hg : Grows w w') => none_any (h.grows hg)
  have hwi := fun w' (hg : Grows w w') => within_any (w := w') (h.grows hg) (w.heap.size + 1 + 1) w.heap.size (w.heap.size + 1) A k hk hk2 hA
  have lp := h.plt
  have HN := Lib.hid hn
  clear hn
  go_enter Tryd.func66, Tryd.ntmps66
  go_wp2_with fail
  refine (hno _ ((((Grows.refl _).alloc _).alloc _).alloc _)).mono ?_
  rintro _ _ ⟨rfl, rfl⟩
  go_wp2_with fail
  refine (hwi _ ((((Grows.refl _).alloc _).alloc _).alloc _) ?_ ?_ ?_ ?_ ?_ ?_).mono ?_
  · exact (Row.new_at _ _ _ (by simp)).cell 0
  · exact ((Row.new_at _ _ _ rfl).grows (((Grows.refl _).alloc _).alloc _)).cell 0
  · exact ((Row.new_at _ _ _ (by simp)).grows ((Grows.refl _).alloc _)).cell 0
  · simp
  · simp; omega
  · simp
  rintro _ w1 ⟨rfl, g1, rfl⟩
  rw [decide_eq_false HN.out]
  go_wp2_with fail
  go_ret2
  exact ⟨rfl, ((((Grows.refl _).alloc _).alloc _).alloc _).grow _⟩
theorem part_ok {p q n : Nat} {B : Nat → Nat} {w : World} (h : Mem w p q n B) (A k : Nat) (hn : A + k ≤ n) :
    Calls Tryd.prog 66 #[.pointer (some ⟨p, 0, none⟩), .int .u64 A, .int .i64 k] w fun r w' => (∃ o, r = .returned (.tuple #[.slice (some ⟨q, o, none⟩) k k, .int .i64 0]) ∧ (0 < k → o = A)) ∧ Grows w w' := by
  have hno := fun w' (hg : Grows w w') => none_any (h.grows hg)
  have hN := h.hn
  have hwi := fun w' (hg : Grows w w') => within_any (w := w') (h.grows hg) (w.heap.size + 1 + 1) w.heap.size (w.heap.size + 1) A k (by omega) (by omega) (by omega)
  have lp := h.plt
  obtain ⟨⟨c, h1, h2, h3⟩, h4, h5, h6⟩ := h
  have c0 : w.cell? ⟨p, 0, none⟩ = some (.slice (some ⟨q, 0, none⟩) n c) := h3.cell 0
  clear h3 h4
  go_enter Tryd.func66, Tryd.ntmps66
  go_wp2_with fail
  refine (hno _ ((((Grows.refl _).alloc _).alloc _).alloc _)).mono ?_
  rintro _ _ ⟨rfl, rfl⟩
  go_wp2_with fail
  refine (hwi _ ((((Grows.refl _).alloc _).alloc _).alloc _) ?_ ?_ ?_ ?_ ?_ ?_).mono ?_
  · exact (Row.new_at _ _ _ (by simp)).cell 0
  · exact ((Row.new_at _ _ _ rfl).grows (((Grows.refl _).alloc _).alloc _)).cell 0
  · exact ((Row.new_at _ _ _ (by simp)).grows ((Grows.refl _).alloc _)).cell 0
  · simp
  · simp; omega
  · simp
  rintro _ w1 ⟨rfl, hg⟩
  rw [decide_eq_true (by omega)]
  have G1 : Grows w w1 := ((((Grows.refl _).alloc _).alloc _).alloc _).trans hg
  have cp : w1.cell? ⟨p, 0, none⟩ = some (.slice (some ⟨q, 0, none⟩) n c) := by rw [G1.cell lp]; exact c0
  have cm : w1.cell? ⟨w.heap.size, 0, none⟩ = some (.pointer (some ⟨p, 0, none⟩)) := ((Row.new_at _ _ _ rfl).grows ((((Grows.refl _).alloc _).alloc _).trans hg)).cell 0
  have ca : w1.cell? ⟨w.heap.size + 1, 0, none⟩ = some (.int .u64 A) := ((Row.new_at _ _ _ (by simp)).grows (((Grows.refl _).alloc _).trans hg)).cell 0
  have ck : w1.cell? ⟨w.heap.size + 1 + 1, 0, none⟩ = some (.int .i64 k) := ((Row.new_at _ _ _ (by simp)).grows hg).cell 0
  have HG := Lib.hid G1
  have l1 : w.heap.size + 1 + 1 < w1.heap.size := by have := hg.size; simp at this; omega
  have l2 := G1.lt lp
  have l3 : w.heap.size + 1 < w1.heap.size := by omega
  have l4 : w.heap.size < w1.heap.size := by omega
  clear hg G1 hno hwi c0
  by_cases hk0 : k = 0
  · subst hk0
    go_wp2_with fail
    refine wp_region_grow (by kernel_rfl) (by kernel_rfl) ?_
    repeat (go_big_quiet_step (fail))
    refine wpQuiet_nil ?_
    intro _ hw'
    obtain ⟨g1, rfl⟩ := hw'
    go_wp2_with fail
    go_ret2
    exact ⟨⟨0, rfl, by omega⟩, HG.out.trans (Grows.of _ _)⟩
  · go_wp2_with fail
    refine wp_region_grow (by kernel_rfl) (by kernel_rfl) ?_
    repeat (go_big_quiet_step (fail))
    refine wpQuiet_nil ?_
    intro _ hw'
    obtain ⟨g1, rfl⟩ := hw'
    go_wp2_with fail
    go_ret2
    exact ⟨⟨A, by simp [Nat.add_sub_cancel_left], fun _ => rfl⟩, HG.out.trans (Grows.of _ _)⟩
theorem number_bad {p q n : Nat} {B : Nat → Nat} {w : World} (h : Mem w p q n B) (A : Nat) (width : Int) (hA : A < 18446744073709551616) (he : numE n A width ≠ 0) :
    Calls Tryd.prog 94 #[.pointer (some ⟨p, 0, none⟩), .int .u64 A, .int .i64 width] w fun r w' => r = .returned (.tuple #[.slice none 0 0, .int .i64 (numE n A width)]) ∧ Grows w w' := by
  have hno := none_any h
  cases hk : knownB width
  · have hE : numE n A width = 2 := by simp [numE, hk]
    have HE := Lib.hid hE
    obtain ⟨h1, h4, h8⟩ := knownB_false hk
    have e1 : (width != 1) = true := by simp [h1]
    have e4 : (width != 4) = true := by simp [h4]
    have e8 : (width != 8) = true := by simp [h8]
    clear he hE h1 h4 h8 hk
    go_enter Tryd.func94, Tryd.ntmps94
    go_wp2_with fail
    refine hno.mono ?_
    rintro _ _ ⟨rfl, rfl⟩
    go_wp2_with fail
    go_ret2
    exact ⟨by rw [HE.out]; rfl, Grows.refl _⟩
  · by_cases ha : (A : Int) % width = 0
    · have hpn : ¬ (width ≤ n ∧ (A : Int) ≤ n - width) := by
        intro hh; apply he; simp [numE, hk, ha, partE, hh]
        have := knownB_cases hk; omega
      have hE : numE n A width = 12 := by
        have : ¬ width < 0 := by have := knownB_cases hk; omega
        simp [numE, hk, ha, partE, this]; omega
      have hno' := fun w' (hg : Grows w w') (hw : 0 ≤ width) (hw2 : width ≤ 9223372036854775807) => part_no (w := w') (h.grows hg) A width hw hw2 hA hpn
      have HE := Lib.hid hE
      have HP := Lib.hid hno'
      clear hpn he hE hno'
      rcases knownB_cases hk with rfl | rfl | rfl
      all_goals
        clear hk
        go_enter Tryd.func94, Tryd.ntmps94
        go_wp2_with fail
        refine hno.mono ?_
        rintro _ _ ⟨rfl, rfl⟩
        go_wp2_with fail
        refine (HP.out _ (Grows.refl _) (by omega) (by omega)).mono ?_
        rintro _ w1 ⟨rfl, hg⟩
        go_wp2_with fail
        go_ret2
        exact ⟨by rw [HE.out]; rfl, hg⟩
    · have hE : numE n A width = 11 := by simp [numE, hk, ha]
      have HE := Lib.hid hE
      clear he hE
      rcases knownB_cases hk with rfl | rfl | rfl
      · omega
      all_goals
        clear hk
        have hb : ∀ m : Int, ¬ (A : Int) % m = 0 → ((A : Int) % m != 0) = true := fun m h => by simp [h]
        have hb := hb _ ha
        go_enter Tryd.func94, Tryd.ntmps94
        go_wp2_with fail
        refine hno.mono ?_
        rintro _ _ ⟨rfl, rfl⟩
        go_wp2_with fail
        go_ret2
        exact ⟨by rw [HE.out]; rfl, Grows.refl _⟩
theorem numE_ok {n A : Nat} {width : Int} (h : numE n A width = 0) : ∃ W : Nat, width = W ∧ knownB (W : Nat) = true ∧ A % W = 0 ∧ A + W ≤ n ∧ W ≤ 8 ∧ 0 < W := by
  unfold numE at h
  cases hk : knownB width
  · simp [hk] at h
  · obtain ⟨W, rfl⟩ := Int.eq_ofNat_of_zero_le (show 0 ≤ width by have := knownB_cases hk; omega)
    have hc := knownB_cases hk
    by_cases ha : (A : Int) % W = 0
    · by_cases hh : (W : Int) ≤ n ∧ (A : Int) ≤ n - W
      · exact ⟨W, rfl, hk, by omega, by omega, by omega, by omega⟩
      · exfalso
        have : ¬ (W : Int) < 0 := by omega
        simp [hk, ha, partE, this] at h
        omega
    · simp [hk, ha] at h
theorem number_ok {p q n : Nat} {B : Nat → Nat} {w : World} (h : Mem w p q n B) (A W : Nat) (hk : knownB (W : Nat) = true) (ha : A % W = 0) (hn : A + W ≤ n) :
    Calls Tryd.prog 94 #[.pointer (some ⟨p, 0, none⟩), .int .u64 A, .int .i64 W] w fun r w' => r = .returned (.tuple #[.slice (some ⟨q, A, none⟩) W W, .int .i64 0]) ∧ Grows w w' := by
  have hno := none_any h
  have hN := h.hn
  have hp := part_ok h A W hn
  have hw : W = 1 ∨ W = 4 ∨ W = 8 := by have := knownB_cases hk; omega
  clear hk
  rcases hw with rfl | rfl | rfl
  · clear ha
    go_enter Tryd.func94, Tryd.ntmps94
    go_wp2_with fail
    refine hno.mono ?_
    rintro _ _ ⟨rfl, rfl⟩
    go_wp2_with fail
    refine hp.mono ?_
    rintro _ w1 ⟨⟨o, rfl, ho⟩, hg⟩
    obtain rfl := ho (by omega)
    go_wp2_with fail
    go_ret2
    exact ⟨rfl, hg⟩
  all_goals
    have hb : ∀ m : Nat, A % m = 0 → ((A : Int) % m != 0) = false := fun m h => by simp; omega
    have hb := hb _ ha
    clear ha
    simp only [Int.cast_ofNat_Int] at hb
    go_enter Tryd.func94, Tryd.ntmps94
    go_wp2_with fail
    refine hno.mono ?_
    rintro _ _ ⟨rfl, rfl⟩
    go_wp2_with fail
    refine hp.mono ?_
    rintro _ w1 ⟨⟨o, rfl, ho⟩, hg⟩
    obtain rfl := ho (by omega)
    go_wp2_with fail
    go_ret2
    exact ⟨rfl, hg⟩
theorem Load_bad {p q n : Nat} {B : Nat → Nat} {w : World} (h : Mem w p q n B) (A : Nat) (width : Int) (hA : A < 18446744073709551616) (he : numE n A width ≠ 0) :
    Calls Tryd.prog 81 #[.pointer (some ⟨p, 0, none⟩), .int .u64 A, .int .i64 width] w fun r w' => r = .returned (.tuple #[.int .u64 0, .int .i64 (numE n A width)]) ∧ Grows w w' := by
  have hnum := number_bad h A width hA he
  generalize numE n A width = E at *
  have hb : (E != 0) = true := by simp [he]
  go_enter Tryd.func81, Tryd.ntmps81
  go_wp2_with fail
  refine hnum.mono ?_
  rintro _ w1 ⟨rfl, hg⟩
  go_wp2_with fail
  go_ret2
  exact ⟨rfl, hg⟩
theorem segB_bytes {w : World} {q n : Nat} {B : Nat → Nat} (h : Bts w q n B) (A k : Nat) (hk : A + k ≤ n) : Bytes w q A (segB B A k) := by
  refine ⟨segB_lt (n := n) (fun i hi => h.byte hi) hk, fun i hi => ?_⟩
  rw [segB_length] at hi
  rw [h.cell (by omega), segB_getD _ _ _ hi]
theorem Load_ok {p q n : Nat} {B : Nat → Nat} {w : World} (hT : Widths w) (h : Mem w p q n B) (A W : Nat) (hk : knownB (W : Nat) = true) (ha : A % W = 0) (hn : A + W ≤ n) :
    Calls Tryd.prog 81 #[.pointer (some ⟨p, 0, none⟩), .int .u64 A, .int .i64 W] w fun r w' => r = .returned (.tuple #[.int .u64 (loadN (segB B A W)), .int .i64 0]) ∧ Grows w w' := by
  have hnum := number_ok h A W hk ha hn
  have hN := h.hn
  have hl := fun w' (hg : Grows w w') => load_yes q A W W 0 W (segB B A W) w' (hT.grows hg) (Nat.le_refl _) (by have := knownB_cases hk; omega) hk (by omega) (segB_length _ _ _) (by simpa using segB_bytes (h.grows hg).bts A W hn) (hg.lt h.qlt)
  generalize loadN (segB B A W) = V at *
  clear hk ha
  go_enter Tryd.func81, Tryd.ntmps81
  go_wp2_with fail
  refine hnum.mono ?_
  rintro _ w1 ⟨rfl, hg⟩
  go_wp2_with fail
  refine (hl _ hg).mono ?_
  rintro _ w2 ⟨rfl, hg2⟩
  go_wp2_with fail
  go_ret2
  exact ⟨rfl, hg.trans hg2⟩
theorem Store_bad {p q n : Nat} {B : Nat → Nat} {w : World} (h : Mem w p q n B) (A : Nat) (width v : Int) (hA : A < 18446744073709551616) (he : numE n A width ≠ 0) :
    Calls Tryd.prog 79 #[.pointer (some ⟨p, 0, none⟩), .int .u64 A, .int .i64 width, .int .u64 v] w fun r w' => r = .returned (.int .i64 (numE n A width)) ∧ Grows w w' := by
  have hnum := number_bad h A width hA he
  generalize numE n A width = E at *
  have hb : (E == 0) = false := by simp [he]
  go_enter Tryd.func79, Tryd.ntmps79
  go_wp2_with fail
  refine hnum.mono ?_
  rintro _ w1 ⟨rfl, hg⟩
  go_wp2_with fail
  go_ret
  exact ⟨rfl, hg⟩
theorem Store_ok {p q n : Nat} {B : Nat → Nat} {w : World} (hT : Widths w) (h : Mem w p q n B) (A W V : Nat) (hk : knownB (W : Nat) = true) (ha : A % W = 0) (hn : A + W ≤ n) :
    Calls Tryd.prog 79 #[.pointer (some ⟨p, 0, none⟩), .int .u64 A, .int .i64 W, .int .u64 V] w fun r w' => r = .returned (.int .i64 0) ∧ Mem w' p q n (putB B A (leB V W)) ∧ Chg [q] w w' := by
  have hnum := number_ok h A W hk ha hn
  have hN := h.hn
  have hl := fun w' (hg : Grows w w') => store_yes V W w' (hT.grows hg) hk
  have hb := leB_lt V W
  have hlen := leB_length V W
  generalize leB V W = L at *
  have HB := Lib.hid hb
  have HLen := Lib.hid hlen
  clear hk ha hb hlen
  go_enter Tryd.func79, Tryd.ntmps79
  go_wp2_with fail
  refine hnum.mono ?_
  rintro _ w1 ⟨rfl, hg⟩
  go_wp2_with fail
  refine (hl _ hg).mono ?_
  rintro _ w2 ⟨b, rfl, hg2, hb, hr⟩
  rw [HLen.out]
  have hM := h.grows (hg.trans hg2)
  have HG := Lib.hid (hg.trans hg2)
  have hsrc : ∀ j, j < L.length → w2.cell? ⟨b, 0 + j, none⟩ = some (.int .u8 (L.getD j 0 : Nat)) := fun j hj => by
    rw [hr.cell]; simp [List.getD, hj]
  have HS := Lib.hid hsrc
  clear hsrc hg hg2 hl hnum hb
  obtain ⟨w3, hrun, hB3, hC3⟩ := run_copy_bts (P := Tryd.prog) 70 70 3 5 Tryd.underlying70 size_u8 (dp := some ⟨q, A, none⟩) (sp := some ⟨b, 0, none⟩) (dLen := W) (dCap := W) (sLen := W) (sCap := W) hM.bts L (by rw [HLen.out]; exact (Nat.min_self _).symm) HB.out (fun _ => ⟨rfl, b, 0, rfl, HS.out⟩) (by rw [HLen.out]; exact hn)
  go_wp2_with fail
  go_ret
  exact ⟨rfl, hM.upd hC3 hB3, (Chg.of_grows HG.out).step hC3 (fun k hk => Or.inl hk)⟩
/-- A new slice whose bytes are a function's. -/
def NewB (w : World) (k : Nat) (C : Nat → Nat) (v : Value) (w' : World) : Prop :=
  ∃ b c, v = .slice (some ⟨b, 0, none⟩) k c ∧ k ≤ c ∧ c ≤ 9223372036854775807 ∧ Grows w w' ∧ w.heap.size ≤ b ∧ Bts w' b k C
theorem newB_of_own {w wr : World} {e : TypeId} {v : Value} {bs : List Nat} {k : Nat} (h : wr.ownsRow w.heap.size e 1 v k (u8s bs)) (hv : v ≠ .slice none 0 0) (hk : bs.length = k)
    (hg : Grows w wr) (hb : ∀ x ∈ bs, x < 256) : NewB w k (fun i => bs.getD i 0) v wr := by
  subst hk
  rcases h.2 with ⟨hn, hz⟩ | ⟨g, cap, cur, rfl, hge, hh, hn, hm, hs, ht⟩
  · exact absurd hn hv
  · refine ⟨g, cap, rfl, hn, by unfold maxLen at hm; omega, hg, hge, ⟨⟨cur, e, hh, by omega, fun i hi => ?_⟩, fun i hi => getD_lt hb i⟩⟩
    have h1 : (cur.toList.take (bs.length * 1))[i]? = some (.int .u8 (bs.getD i 0 : Nat)) := by
      rw [ht]; simp [u8s, List.getD, hi]
    rw [List.getElem?_take_of_lt (by omega)] at h1
    simpa using h1
theorem clone_nil (w : World) :
    Calls Tryd.prog 67 #[.slice none 0 0] w fun r w' => r = .returned (.slice none 0 0) ∧ w' = w := by
  have e0 : ∀ w, (binOp .eql 70 (.slice none 0 0) (.slice none 0 0)).run Tryd.prog w = .ok (.bool true) w := fun w => Lib.run_eql_slice_nil w 70 5 none 0 0 0 0 Tryd.underlying70
  go_enter Tryd.func67, Tryd.ntmps67
  go_wp2_with fail
  go_ret
  exact ⟨rfl, rfl⟩
theorem clone_any {w : World} {b o k c : Nat} {bs : List Nat} (h : Bytes w b o bs) (hb : b < w.heap.size) (hk : bs.length = k) (hk47 : k ≤ 140737488355328) :
    Calls Tryd.prog 67 #[.slice (some ⟨b, o, none⟩) k c] w fun r w' => ∃ v, r = .returned v ∧ NewB w k (fun i => bs.getD i 0) v w' := by
  have e0 := nil_no' (b := b) (o := o) (n := k) (c := c)
  have hown0 : (w.alloc (Obj.cells #[] 5)).ownsRow w.heap.size 5 1 (.slice (some ⟨w.heap.size, 0, none⟩) 0 0) 0 (u8s []) := ⟨rfl, Or.inr ⟨w.heap.size, 0, #[], rfl, Nat.le_refl _, Row.new _ _ _, Nat.le_refl _, by simp, rfl, rfl⟩⟩
  have hb0 := (Src.of_bytes h hb).grows ((Grows.refl w).alloc (Obj.cells #[] 5))
  have HO0 := Lib.hid hown0
  have HB0 := Lib.hid hb0
  have HB := Lib.hid h.1
  have HK := Lib.hid hk
  clear hown0 hb0 hk h
  go_enter Tryd.func67, Tryd.ntmps67
  go_wp2_with (at_builtin; refine wpList_append_src (hgd := by rfl) (s := .tmp 5) (x := .tmp 6) (ho := by rfl) (base := w.heap.size) (v := .slice (some ⟨w.heap.size, 0, none⟩) 0 0) (n := 0) (xs := []) (hs := by rfl) (hown := by exact HO0.out) (A := some ⟨b, o, none⟩) (bs := bs) (m := k) (c := c) (hx := by rfl) (hm := HK.out) (hb := by exact HB0.out) (h47 := by omega) (hbase := by simp) (hc := fun h => by cases h) (h := ?_); intro v1 w1 hown1 hgr1 hnn)
  go_ret
  exact ⟨v1, rfl, newB_of_own (by simpa using hown1) (fun e => by have := hnn e; cases this) HK.out (((Grows.refl w).alloc _).grown hgr1 (ownsRow_block HO0.out)) HB.out⟩
theorem partE_ok {n A : Nat} {k : Int} (h : partE n A k = 0) : ∃ K : Nat, k = K ∧ A + K ≤ n := by
  unfold partE at h
  by_cases h1 : k < 0
  · simp [h1] at h
  · by_cases h2 : k ≤ n ∧ (A : Int) ≤ n - k
    · exact ⟨k.toNat, by omega, by omega⟩
    · rw [if_neg h1, if_neg h2] at h; cases h
theorem part_bad {p q n : Nat} {B : Nat → Nat} {w : World} (h : Mem w p q n B) (A : Nat) (k : Int) (hA : A < 18446744073709551616) (hk2 : k ≤ 9223372036854775807) (he : partE n A k ≠ 0) :
    Calls Tryd.prog 66 #[.pointer (some ⟨p, 0, none⟩), .int .u64 A, .int .i64 k] w fun r w' => r = .returned (.tuple #[.slice none 0 0, .int .i64 (partE n A k)]) ∧ Grows w w' := by
  unfold partE at *
  by_cases h1 : k < 0
  · rw [if_pos h1]; exact part_neg h A k h1
  · by_cases h2 : k ≤ n ∧ (A : Int) ≤ n - k
    · rw [if_neg h1, if_pos h2] at he; exact absurd rfl he
    · rw [if_neg h1, if_neg h2]; exact part_no h A k (by omega) hk2 hA h2
theorem Bytes_bad {p q n : Nat} {B : Nat → Nat} {w : World} (h : Mem w p q n B) (A : Nat) (k : Int) (hA : A < 18446744073709551616) (hk2 : k ≤ 9223372036854775807) (he : partE n A k ≠ 0) :
    Calls Tryd.prog 28 #[.pointer (some ⟨p, 0, none⟩), .int .u64 A, .int .i64 k] w fun r w' => r = .returned (.tuple #[.slice none 0 0, .int .i64 (partE n A k)]) ∧ Grows w w' := by
  have hp := part_bad h A k hA hk2 he
  generalize partE n A k = E at *
  go_enter Tryd.func28, Tryd.ntmps28
  go_wp2_with fail
  refine hp.mono ?_
  rintro _ w1 ⟨rfl, hg⟩
  go_wp2_with fail
  refine (clone_nil _).mono ?_
  rintro _ _ ⟨rfl, rfl⟩
  go_wp2_with fail
  go_ret2
  exact ⟨rfl, hg⟩
theorem Bytes_ok {p q n : Nat} {B : Nat → Nat} {w : World} (h : Mem w p q n B) (A k : Nat) (hn : A + k ≤ n) :
    Calls Tryd.prog 28 #[.pointer (some ⟨p, 0, none⟩), .int .u64 A, .int .i64 k] w fun r w' => ∃ v, r = .returned (.tuple #[v, .int .i64 0]) ∧ NewB w k (fun i => B (A + i)) v w' := by
  have hN := h.hn
  have hp := part_ok h A k hn
  go_enter Tryd.func28, Tryd.ntmps28
  go_wp2_with fail
  refine hp.mono ?_
  rintro _ w1 ⟨⟨o, rfl, ho⟩, hg⟩
  have hB : Bytes w1 q o (segB B A k) := by
    rcases Nat.eq_zero_or_pos k with h0 | h0
    · subst h0
      exact ⟨fun x hx => by simp [segB] at hx, fun i hi => by simp [segB] at hi⟩
    · rw [ho h0]; exact segB_bytes (h.grows hg).bts A k hn
  have hcl := clone_any (c := k) hB (hg.lt h.qlt) (segB_length _ _ _) (by omega)
  clear ho hB
  go_wp2_with fail
  refine hcl.mono ?_
  rintro _ w2 ⟨v, rfl, b, c, rfl, hc1, hc2, hg2, hb, hBt⟩
  go_wp2_with fail
  go_ret2
  refine ⟨_, rfl, b, c, rfl, hc1, hc2, hg.trans hg2, by have := hg.size; omega, hBt.congr fun i hi => segB_getD _ _ _ hi⟩
theorem Put_bad {p q n : Nat} {B : Nat → Nat} {w : World} (h : Mem w p q n B) (A m c : Nat) (a : Option Addr) (hA : A < 18446744073709551616) (hm : m ≤ 9223372036854775807) (he : partE n A m ≠ 0) :
    Calls Tryd.prog 38 #[.pointer (some ⟨p, 0, none⟩), .int .u64 A, .slice a m c] w fun r w' => r = .returned (.int .i64 (partE n A m)) ∧ Grows w w' := by
  have hp := part_bad h A m hA (by omega) he
  generalize partE n A m = E at *
  have hb : (E == 0) = false := by simp [he]
  go_enter Tryd.func38, Tryd.ntmps38
  go_wp2_with fail
  refine hp.mono ?_
  rintro _ w1 ⟨rfl, hg⟩
  go_wp2_with fail
  go_ret
  exact ⟨rfl, hg⟩
theorem Put_ok {p q n : Nat} {B : Nat → Nat} {w : World} (h : Mem w p q n B) (A m c : Nat) (a : Option Addr) (bs : List Nat) (hs : Src w a bs) (hm : bs.length = m) (hn : A + m ≤ n) :
    Calls Tryd.prog 38 #[.pointer (some ⟨p, 0, none⟩), .int .u64 A, .slice a m c] w fun r w' => r = .returned (.int .i64 0) ∧ Mem w' p q n (putB B A bs) ∧ Chg [q] w w' := by
  have hN := h.hn
  have hp := part_ok h A m hn
  have HS := Lib.hid hs
  have HM := Lib.hid hm
  clear hs hm
  go_enter Tryd.func38, Tryd.ntmps38
  go_wp2_with fail
  refine hp.mono ?_
  rintro _ w1 ⟨⟨o, rfl, ho⟩, hg⟩
  have hM := h.grows hg
  obtain ⟨w3, hrun, hB3, hC3⟩ := run_copy_bts (P := Tryd.prog) 70 70 3 5 Tryd.underlying70 size_u8 (dp := some ⟨q, o, none⟩) (sp := a) (dLen := m) (dCap := m) (sLen := m) (sCap := c) (at_ := A) hM.bts bs (by rw [HM.out]; exact (Nat.min_self _).symm) HS.out.1 (fun h0 => by
    obtain ⟨b, o', e, hb, hB⟩ := (HS.out.grows hg).at0 h0
    exact ⟨by rw [ho (by rw [← HM.out]; exact h0)], b, o', e, hB.2⟩) (by rw [HM.out]; exact hn)
  rw [HM.out] at hrun
  clear ho
  go_wp2_with fail
  go_ret
  exact ⟨rfl, hM.upd hC3 hB3, (Chg.of_grows hg).step hC3 (fun k hk => Or.inl hk)⟩
theorem Clear_bad {p q n : Nat} {B : Nat → Nat} {w : World} (h : Mem w p q n B) (f : Int) (hf : f < 0 ∨ (n / 256 : Nat) ≤ f) :
    Calls Tryd.prog 76 #[.pointer (some ⟨p, 0, none⟩), .int .i64 f] w fun r w' => r = .returned (.int .i64 12) ∧ Grows w w' := by
  have hno := none_any h
  have hfr := frames_any h
  obtain ⟨N, hN⟩ : ∃ N, N = n / 256 := ⟨_, rfl⟩
  rw [← hN] at hf hfr
  clear hN
  by_cases h0 : f < 0
  · go_enter Tryd.func76, Tryd.ntmps76
    go_wp2_with fail
    refine hno.mono ?_
    rintro _ _ ⟨rfl, rfl⟩
    go_wp2_with fail
    go_ret
    exact ⟨rfl, Grows.refl _⟩
  · have hd : decide (f < 0) = false := decide_eq_false h0
    have hf2 : (N : Int) ≤ f := by omega
    clear hf
    go_enter Tryd.func76, Tryd.ntmps76
    go_wp2_with fail
    refine hno.mono ?_
    rintro _ _ ⟨rfl, rfl⟩
    go_wp2_with fail
    refine hfr.mono ?_
    rintro _ _ ⟨rfl, rfl⟩
    go_wp2_with fail
    go_ret
    exact ⟨rfl, Grows.refl _⟩
theorem Clear_ok {p q n : Nat} {B : Nat → Nat} {w : World} (h : Mem w p q n B) (f : Nat) (hf : f < n / 256) :
    Calls Tryd.prog 76 #[.pointer (some ⟨p, 0, none⟩), .int .i64 f] w fun r w' => r = .returned (.int .i64 0) ∧ Mem w' p q n (putB B (f * 256) (List.replicate 256 0)) ∧ Chg [q] w w' := by
  have hno := none_any h
  have hfr := frames_any h
  obtain ⟨N, hN⟩ : ∃ N, N = n / 256 := ⟨_, rfl⟩
  rw [← hN] at hf hfr
  have hle : f * 256 + 256 ≤ n := by omega
  have hn24 := h.hn
  obtain ⟨c, h1, h2, h3⟩ := h.hd
  have cp : w.cell? ⟨p, 0, none⟩ = some (.slice (some ⟨q, 0, none⟩) n c) := h3.cell 0
  have e256 : (f + 1) * 256 - f * 256 = 256 := by omega
  obtain ⟨w3, hrun, hB3, hC3⟩ := run_clear_bts' (P := Tryd.prog) (w := w) 70 5 0 Tryd.underlying70 zero_u8 (at_ := f * 256) (k := (f + 1) * 256 - f * 256) h.bts (by omega) (by omega) (c - f * 256)
  rw [e256] at hB3
  have HM := Lib.hid (h.upd hC3 hB3)
  have HC := Lib.hid hC3
  clear hN h hB3 hC3 e256 h3
  go_enter Tryd.func76, Tryd.ntmps76
  go_wp2_with fail
  refine hno.mono ?_
  rintro _ _ ⟨rfl, rfl⟩
  go_wp2_with fail
  refine hfr.mono ?_
  rintro _ _ ⟨rfl, rfl⟩
  go_wp2_with fail
  go_ret
  exact ⟨rfl, HM.out, HC.out⟩
theorem strB_beq {xs ys : List Nat} (hx : ∀ x ∈ xs, x < 256) (hy : ∀ x ∈ ys, x < 256) : ((strB xs).toList == (strB ys).toList) = decide (xs = ys) := by
  have e : ∀ zs : List Nat, (strB zs).toList = zs.map UInt8.ofNat := fun zs => by
    rw [ByteArray.toList_eq]
    unfold strB
    rw [strOfNums_data, List.map_map]
    rfl
  rw [e, e]
  by_cases h : xs = ys
  · subst h; simp
  · rw [decide_eq_false h]
    apply beq_eq_false_iff_ne.2
    intro h2
    apply h
    have back : ∀ zs : List Nat, (∀ x ∈ zs, x < 256) → (zs.map UInt8.ofNat).map UInt8.toNat = zs := fun zs hz => by
      rw [List.map_map]
      conv => rhs; rw [← List.map_id zs]
      refine List.map_congr_left fun x hx => ?_
      have := hz x hx
      simp [UInt8.toNat_ofNat']
      omega
    rw [← back xs hx, ← back ys hy, h2]
/-! Memories that no call made. -/
/-- nil, or a struct that is all zero. -/
def NoMem (w : World) (v : Option Addr) : Prop := v = none ∨ ∃ p, v = some ⟨p, 0, none⟩ ∧ Row w p #[.slice none 0 0] 121
theorem NoMem.chg {S : List Nat} {w w' : World} {v : Option Addr} (h : NoMem w v) (hc : Chg S w w') (hS : ∀ p, v = some ⟨p, 0, none⟩ → p ∉ S) : NoMem w' v := by
  rcases h with h | ⟨p, h, hr⟩
  · exact Or.inl h
  · exact Or.inr ⟨p, h, hr.chg hc (hS p h)⟩
theorem NoMem.grows {w w' : World} {v : Option Addr} (h : NoMem w v) (hg : Grows w w') : NoMem w' v := h.chg (S := []) (Chg.of_grows hg) (by simp)
theorem nil_yes (w : World) : (binOp .eql 70 (.slice none 0 0) (.slice none 0 0)).run Tryd.prog w = .ok (.bool true) w := Lib.run_eql_slice_nil w 70 5 none 0 0 0 0 Tryd.underlying70
theorem none_nob {v : Option Addr} {w : World} (h : NoMem w v) :
    Calls Tryd.prog 80 #[.pointer v] w fun r w' => r = .returned (.bool true) ∧ w' = w := by
  rcases h with rfl | ⟨p, rfl, hr⟩
  · go_enter Tryd.func80, Tryd.ntmps80
    go_wp2_with fail
    go_ret
    exact ⟨rfl, rfl⟩
  · have c0 : w.cell? ⟨p, 0, none⟩ = some (.slice none 0 0) := hr.cell 0
    have e0 := nil_yes
    go_enter Tryd.func80, Tryd.ntmps80
    go_wp2_with fail
    go_ret
    exact ⟨rfl, rfl⟩
theorem frames_nob {v : Option Addr} {w : World} (h : NoMem w v) :
    Calls Tryd.prog 50 #[.pointer v] w fun r w' => r = .returned (.int .i64 0) ∧ w' = w := by
  have hno := none_nob h
  go_enter Tryd.func50, Tryd.ntmps50
  go_wp2_with fail
  refine hno.mono ?_
  rintro _ _ ⟨rfl, rfl⟩
  go_wp2_with fail
  go_ret
  exact ⟨rfl, rfl⟩
theorem part_nob {v : Option Addr} {w : World} (h : NoMem w v) (A k : Int) :
    Calls Tryd.prog 66 #[.pointer v, .int .u64 A, .int .i64 k] w fun r w' => r = .returned (.tuple #[.slice none 0 0, .int .i64 1]) ∧ Grows w w' := by
  have hno := fun w' (hg : Grows w w') => none_nob (h.grows hg)
  go_enter Tryd.func66, Tryd.ntmps66
  go_wp2_with fail
  refine (hno _ ((((Grows.refl _).alloc _).alloc _).alloc _)).mono ?_
  rintro _ _ ⟨rfl, rfl⟩
  go_wp2_with fail
  go_ret2
  exact ⟨rfl, (((Grows.refl _).alloc _).alloc _).alloc _⟩
theorem number_nob {v : Option Addr} {w : World} (h : NoMem w v) (A k : Int) :
    Calls Tryd.prog 94 #[.pointer v, .int .u64 A, .int .i64 k] w fun r w' => r = .returned (.tuple #[.slice none 0 0, .int .i64 1]) ∧ Grows w w' := by
  have hno := none_nob h
  go_enter Tryd.func94, Tryd.ntmps94
  go_wp2_with fail
  refine hno.mono ?_
  rintro _ _ ⟨rfl, rfl⟩
  go_wp2_with fail
  go_ret2
  exact ⟨rfl, Grows.refl _⟩
theorem Load_nob {v : Option Addr} {w : World} (h : NoMem w v) (A k : Int) :
    Calls Tryd.prog 81 #[.pointer v, .int .u64 A, .int .i64 k] w fun r w' => r = .returned (.tuple #[.int .u64 0, .int .i64 1]) ∧ Grows w w' := by
  have hno := number_nob h A k
  go_enter Tryd.func81, Tryd.ntmps81
  go_wp2_with fail
  refine hno.mono ?_
  rintro _ w1 ⟨rfl, hg⟩
  go_wp2_with fail
  go_ret2
  exact ⟨rfl, hg⟩
theorem Store_nob {v : Option Addr} {w : World} (h : NoMem w v) (A k x : Int) :
    Calls Tryd.prog 79 #[.pointer v, .int .u64 A, .int .i64 k, .int .u64 x] w fun r w' => r = .returned (.int .i64 1) ∧ Grows w w' := by
  have hno := number_nob h A k
  go_enter Tryd.func79, Tryd.ntmps79
  go_wp2_with fail
  refine hno.mono ?_
  rintro _ w1 ⟨rfl, hg⟩
  go_wp2_with fail
  go_ret
  exact ⟨rfl, hg⟩
theorem Bytes_nob {v : Option Addr} {w : World} (h : NoMem w v) (A k : Int) :
    Calls Tryd.prog 28 #[.pointer v, .int .u64 A, .int .i64 k] w fun r w' => r = .returned (.tuple #[.slice none 0 0, .int .i64 1]) ∧ Grows w w' := by
  have hno := part_nob h A k
  go_enter Tryd.func28, Tryd.ntmps28
  go_wp2_with fail
  refine hno.mono ?_
  rintro _ w1 ⟨rfl, hg⟩
  go_wp2_with fail
  refine (clone_nil _).mono ?_
  rintro _ _ ⟨rfl, rfl⟩
  go_wp2_with fail
  go_ret2
  exact ⟨rfl, hg⟩
theorem Put_nob {v : Option Addr} {w : World} (h : NoMem w v) (A : Int) (a : Option Addr) (m c : Nat) (hm : m ≤ 9223372036854775807) :
    Calls Tryd.prog 38 #[.pointer v, .int .u64 A, .slice a m c] w fun r w' => r = .returned (.int .i64 1) ∧ Grows w w' := by
  have hno := part_nob h A m
  go_enter Tryd.func38, Tryd.ntmps38
  go_wp2_with fail
  refine hno.mono ?_
  rintro _ w1 ⟨rfl, hg⟩
  go_wp2_with fail
  go_ret
  exact ⟨rfl, hg⟩
theorem Clear_nob {v : Option Addr} {w : World} (h : NoMem w v) (f : Int) :
    Calls Tryd.prog 76 #[.pointer v, .int .i64 f] w fun r w' => r = .returned (.int .i64 1) ∧ w' = w := by
  have hno := none_nob h
  go_enter Tryd.func76, Tryd.ntmps76
  go_wp2_with fail
  refine hno.mono ?_
  rintro _ _ ⟨rfl, rfl⟩
  go_wp2_with fail
  go_ret
  exact ⟨rfl, rfl⟩
end Go.Proofs.YtlchlklbjocliaaDoor
