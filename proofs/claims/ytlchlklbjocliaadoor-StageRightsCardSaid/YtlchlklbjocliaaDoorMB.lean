/- Texts of one kind, laid together. -/
import Derived.Test.YtlchlklbjocliaaDoorProg
import Derived.Test.YtlchlklbjocliaaDoorMA
import Derived.Test.YtlchlklbjocliaaDoorMA
import Derived.OpenShut
import Derived.Lib.Hide
import Derived.Deep.Slices
import Derived.SizedLaws
import Derived.Laws.BytesArg
import Derived.Laws.AppendOwnNone
import Derived.Laws.BytesString
import Derived.Laws.CopyOwn
import Derived.Lib.SliceRun
import Derived.StillTailTactics
/- What the functions of the package word, and of its reference, do with bytes: known, Load, Store. -/
namespace Go.Proofs.YtlchlklbjocliaaDoor
open Go Go.RowKit
set_option linter.unusedSimpArgs false
set_option linter.unusedVariables false
set_option maxRecDepth 100000
/-- The table of widths lies where the program's text lays it. -/
def Widths (w : World) : Prop := 1 < w.heap.size ∧ ∀ i, w.cell? ⟨1, i, none⟩ = #[Value.int .i64 1, .int .i64 0, .int .i64 4, .int .i64 8][i]?
theorem Widths.grows {w w' : World} (h : Widths w) (hg : Grows w w') : Widths w' := ⟨hg.lt h.1, fun i => by rw [hg.cell h.1]; exact h.2 i⟩
def knownB (n : Int) : Bool := n == 1 || n == 4 || n == 8
theorem knownB_cases {n : Int} (h : knownB n = true) : n = 1 ∨ n = 4 ∨ n = 8 := by simp [knownB] at h; omega
theorem knownB_false {n : Int} (h : knownB n = false) : n ≠ 1 ∧ n ≠ 4 ∧ n ≠ 8 := by simp [knownB] at h; omega
theorem known_any (n : Int) (w : World) (hT : Widths w) :
    Calls Tryd.prog 101 #[.int .i64 n] w fun r w' => r = .returned (.bool (knownB n)) ∧ Grows w w' := by
  obtain ⟨_, hc⟩ := hT
  have hc0 := hc 0
  have hc1 := hc 1
  have hc2 := hc 2
  have hc3 := hc 3
  simp at hc0 hc1 hc2 hc3
  clear hc
  have i0 : ∀ w, (Instr.index 181 (.agg #[.int .i64 1, .int .i64 0, .int .i64 4, .int .i64 8]) (.int .i64 0)).run Tryd.prog w = .ok (.int .i64 1) w := fun _ => by kernel_rfl
  have i1 : ∀ w, (Instr.index 181 (.agg #[.int .i64 1, .int .i64 0, .int .i64 4, .int .i64 8]) (.int .i64 1)).run Tryd.prog w = .ok (.int .i64 0) w := fun _ => by kernel_rfl
  have i2 : ∀ w, (Instr.index 181 (.agg #[.int .i64 1, .int .i64 0, .int .i64 4, .int .i64 8]) (.int .i64 2)).run Tryd.prog w = .ok (.int .i64 4) w := fun _ => by kernel_rfl
  have i3 : ∀ w, (Instr.index 181 (.agg #[.int .i64 1, .int .i64 0, .int .i64 4, .int .i64 8]) (.int .i64 3)).run Tryd.prog w = .ok (.int .i64 8) w := fun _ => by kernel_rfl
  cases hk : knownB n
  · obtain ⟨h1, h4, h8⟩ := knownB_false hk
    have e1 : ((1 : Int) == n) = false := by simp; omega
    have e4 : ((4 : Int) == n) = false := by simp; omega
    have e8 : ((8 : Int) == n) = false := by simp; omega
    by_cases h0 : n = 0
    · subst h0
      go_enter Tryd.func101, Tryd.ntmps101
      go_wp2_with fail
      go_rounds 5
      go_ret
      exact ⟨by simp, Grows.refl _⟩
    · have e0 : ((0 : Int) == n) = false := by simp; omega
      go_enter Tryd.func101, Tryd.ntmps101
      go_wp2_with fail
      go_rounds 5
      go_ret
      exact ⟨by simp, Grows.refl _⟩
  · rcases knownB_cases hk with rfl | rfl | rfl
    all_goals
      go_enter Tryd.func101, Tryd.ntmps101
      go_wp2_with fail
      go_rounds 5
      go_ret
      exact ⟨by simp, Grows.refl _⟩
/-- Bytes that stand from a place on. -/
def Bytes (w : World) (b o : Nat) (bs : List Nat) : Prop := (∀ x ∈ bs, x < 256) ∧ ∀ i, i < bs.length → w.cell? ⟨b, o + i, none⟩ = some (.int .u8 (bs.getD i 0 : Nat))
theorem getD_lt {bs : List Nat} (h : ∀ x ∈ bs, x < 256) (i : Nat) : bs.getD i 0 < 256 := by
  rcases Nat.lt_or_ge i bs.length with hi | hi
  · have : bs.getD i 0 = bs[i] := by simp [List.getD, hi]
    rw [this]; exact h _ (List.getElem_mem hi)
  · have : bs.getD i 0 = 0 := by simp [List.getD, List.getElem?_eq_none hi]
    rw [this]; decide
theorem take_succ_getD (bs : List Nat) {i : Nat} (h : i < bs.length) : bs.take (i + 1) = bs.take i ++ [bs.getD i 0] := by
  rw [List.take_succ_eq_append_getElem h]; congr 2; simp [List.getD, h]
theorem row_bytes {w : World} {b : Nat} {bs : List Nat} {t : TypeId} (h : Row w b ((bs.map fun x => Value.int .u8 (x : Nat)).toArray) t) (hb : ∀ x ∈ bs, x < 256) : Bytes w b 0 bs := by
  refine ⟨hb, fun i hi => ?_⟩
  rw [h.cell]; simp [List.getD, hi]
/-- What is loaded of bytes. -/
def loadN (bs : List Nat) : Nat := if bs.length = 4 then sx32 (leN bs) else leN bs
theorem load_no (a : Option Addr) (n c : Nat) (at_ width : Int) (w : World) (hT : Widths w) (hn : n ≤ 9223372036854775807)
    (h : knownB width = false ∨ at_ < 0 ∨ (n : Int) - width < at_) :
    Calls Tryd.prog 96 #[.slice a n c, .int .i64 at_, .int .i64 width] w fun r w' => r = .returned (.tuple #[.int .u64 0, .bool false]) ∧ Grows w w' := by
  cases hk : knownB width
  · go_enter Tryd.func96, Tryd.ntmps96
    go_wp2_with fail
    refine (known_any _ _ hT).mono ?_
    rintro _ w1 ⟨rfl, g1, rfl⟩
    rw [hk]
    go_wp2_with fail
    go_ret2
    exact ⟨by simp, Grows.of _ _⟩
  · have hw := knownB_cases hk
    have hw1 : 0 ≤ width := by omega
    have hw2 : width ≤ 8 := by omega
    by_cases h0 : at_ < 0
    · clear h hw
      go_enter Tryd.func96, Tryd.ntmps96
      go_wp2_with fail
      refine (known_any _ _ hT).mono ?_
      rintro _ w1 ⟨rfl, g1, rfl⟩
      rw [hk]
      go_wp2_with fail
      go_ret2
      exact ⟨by simp, Grows.of _ _⟩
    · have h2 : (n : Int) - width < at_ := by rcases h with h | h | h <;> simp_all
      clear h hw
      go_enter Tryd.func96, Tryd.ntmps96
      go_wp2_with fail
      refine (known_any _ _ hT).mono ?_
      rintro _ w1 ⟨rfl, g1, rfl⟩
      rw [hk]
      go_wp2_with fail
      go_ret2
      exact ⟨by simp, Grows.of _ _⟩
set_option maxHeartbeats 1000000 in
theorem load_yes (b o n c A W : Nat) (bs : List Nat) (w : World) (hT : Widths w) (hnc : n ≤ c) (hc : c ≤ 9223372036854775807) (hk : knownB W = true) (hA : A + W ≤ n)
    (hl : bs.length = W) (hB : Bytes w b (o + A) bs) (hbl : b < w.heap.size) :
    Calls Tryd.prog 96 #[.slice (some ⟨b, o, none⟩) n c, .int .i64 A, .int .i64 W] w fun r w' => r = .returned (.tuple #[.int .u64 (loadN bs : Nat), .bool true]) ∧ Grows w w' := by
  obtain ⟨h256, hcell⟩ := hB
  have hw : W = 1 ∨ W = 4 ∨ W = 8 := by have := knownB_cases hk; omega
  have hw1 : 1 ≤ W := by omega
  have hw2 : W ≤ 8 := by omega
  have HW := Lib.hid hw
  have HL := Lib.hid hl
  have HC := Lib.hid hcell
  have HX := Lib.hid h256
  clear hw hl hcell h256
  go_enter Tryd.func96, Tryd.ntmps96
  go_wp2_with fail
  refine (known_any _ _ hT).mono ?_
  rintro _ w1 ⟨rfl, g1, rfl⟩
  rw [hk]
  clear hk
  go_wp2_with fail
  go_loop [8, 33] (fun v i => ∃ k : Nat, k ≤ W ∧ i = .int .i64 k ∧ v = .int .u64 (leN (bs.take k) : Nat)) (fun _ i => W - (intOf i).toNat)
  case atStart => exact ⟨0, Nat.zero_le _, rfl, rfl⟩
  case round =>
    obtain ⟨k, hk, rfl, rfl⟩ := hrel
    by_cases hlt : k < W
    · have hcell : w.cell? ⟨b, o + A + k, none⟩ = some (.int .u8 (bs.getD k 0 : Nat)) := HC.out k (by rw [HL.out]; exact hlt)
      have hx := getD_lt HX.out k
      have hv : leN (bs.take k) < 256 ^ k := by
        have h1 := leN_lt (l := bs.take k) (fun x hx => HX.out x (List.mem_of_mem_take hx))
        have : (bs.take k).length = k := by rw [List.length_take, HL.out]; omega
        rwa [this] at h1
      have HS : Hid (leN (bs.take (k + 1)) = leN (bs.take k) + bs.getD k 0 * 256 ^ k) := by
        show _ = _
        rw [take_succ_getD _ (by rw [HL.out]; exact hlt), leN_snoc, List.length_take, HL.out, Nat.min_eq_left hk]
      generalize leN (bs.take k) = V at *
      generalize bs.getD k 0 = X at *
      have HO := Lib.hid (or_byte hv hx (k := k) (by omega))
      clear hv
      go_wp2_with fail
      exact ⟨⟨k + 1, by omega, by go_num, by rw [HO.out, HS.out]⟩, by simp [intOf]; omega⟩
    · have hkw : k = W := by omega
      subst hkw
      have HN : Hid (leN (bs.take k) = leN bs) := by show _ = _; rw [List.take_of_length_le (by rw [HL.out]; omega)]
      have HV : Hid (leN bs < 256 ^ k) := by
        have h1 := leN_lt (l := bs) HX.out
        rwa [HL.out] at h1
      go_wp2_with fail
      · have h4 : k = 4 := by
          have : ((k : Int) == 4) = true := by assumption
          have := eq_of_beq this
          omega
        subst h4
        go_ret2
        refine ⟨?_, Grows.of _ _⟩
        have hv := HV.out
        rw [pow256.2.1] at hv
        simp [HN.out, sx32_walk hv, loadN, HL.out]
      · have h4 : ¬ k = 4 := by
          have := ne_of_beq_false (show ((k : Int) == 4) = false by assumption)
          omega
        go_ret2
        refine ⟨?_, Grows.of _ _⟩
        simp [HN.out, loadN, HL.out, h4]
theorem store_no (v width : Int) (w : World) (hT : Widths w) (hk : knownB width = false) :
    Calls Tryd.prog 95 #[.int .u64 v, .int .i64 width] w fun r w' => r = .returned (.slice none 0 0) ∧ Grows w w' := by
  go_enter Tryd.func95, Tryd.ntmps95
  go_wp2_with fail
  refine (known_any _ _ hT).mono ?_
  rintro _ w1 ⟨rfl, g1, rfl⟩
  rw [hk]
  go_wp2_with fail
  go_ret
  exact ⟨rfl, Grows.of _ _⟩
/-- A new slice of bytes. -/
def NewBytes (w : World) (bs : List Nat) (r : Ending) (w' : World) : Prop :=
  ∃ b, r = .returned (.slice (some ⟨b, 0, none⟩) bs.length bs.length) ∧ Grows w w' ∧ w.heap.size ≤ b ∧ Row w' b ((bs.map fun x => Value.int .u8 (x : Nat)).toArray) 5
set_option maxHeartbeats 2000000 in
theorem store_1 (V : Nat) (w : World) (hT : Widths w) :
    Calls Tryd.prog 95 #[.int .u64 V, .int .i64 1] w (NewBytes w (leB V 1)) := by
  have hmk : ∀ w, (Instr.makeSlice 70 (.int .i64 1) (.int .i64 1)).run Tryd.prog w = .ok (.slice (some ⟨w.heap.size, 0, none⟩) 1 1) (w.alloc (.cells #[.int .u8 0] 5)) := fun _ => by kernel_rfl
  go_enter Tryd.func95, Tryd.ntmps95
  go_wp2_with fail
  refine (known_any _ _ hT).mono ?_
  rintro _ w1 ⟨rfl, g1, rfl⟩
  rw [show knownB 1 = true from rfl]
  go_wp2_with fail
  go_rounds 2
  go_ret
  refine ⟨w.heap.size + g1.size, rfl, (Grows.of _ _).alloc _, by omega, ?_⟩
  have h := Row.new_at (w.grow g1) #[Value.int .u8 ((V : Int) % 256)] 5 (b := w.heap.size + g1.size) (by simp)
  simpa [leB, Nat.div_div_eq_div_mul] using h
set_option maxHeartbeats 2000000 in
theorem store_4 (V : Nat) (w : World) (hT : Widths w) :
    Calls Tryd.prog 95 #[.int .u64 V, .int .i64 4] w (NewBytes w (leB V 4)) := by
  have hmk : ∀ w, (Instr.makeSlice 70 (.int .i64 4) (.int .i64 4)).run Tryd.prog w = .ok (.slice (some ⟨w.heap.size, 0, none⟩) 4 4) (w.alloc (.cells #[.int .u8 0, .int .u8 0, .int .u8 0, .int .u8 0] 5)) := fun _ => by kernel_rfl
  go_enter Tryd.func95, Tryd.ntmps95
  go_wp2_with fail
  refine (known_any _ _ hT).mono ?_
  rintro _ w1 ⟨rfl, g1, rfl⟩
  rw [show knownB 4 = true from rfl]
  go_wp2_with fail
  go_rounds 5
  go_ret
  refine ⟨w.heap.size + g1.size, rfl, (Grows.of _ _).alloc _, by omega, ?_⟩
  have h := Row.new_at (w.grow g1) #[Value.int .u8 ((V : Int) % 256), Value.int .u8 ((V : Int) / 256 % 256), Value.int .u8 ((V : Int) / 65536 % 256), Value.int .u8 ((V : Int) / 16777216 % 256)] 5 (b := w.heap.size + g1.size) (by simp)
  simpa [leB, Nat.div_div_eq_div_mul] using h
set_option maxHeartbeats 2000000 in
theorem store_8 (V : Nat) (w : World) (hT : Widths w) :
    Calls Tryd.prog 95 #[.int .u64 V, .int .i64 8] w (NewBytes w (leB V 8)) := by
  have hmk : ∀ w, (Instr.makeSlice 70 (.int .i64 8) (.int .i64 8)).run Tryd.prog w = .ok (.slice (some ⟨w.heap.size, 0, none⟩) 8 8) (w.alloc (.cells #[.int .u8 0, .int .u8 0, .int .u8 0, .int .u8 0, .int .u8 0, .int .u8 0, .int .u8 0, .int .u8 0] 5)) := fun _ => by kernel_rfl
  go_enter Tryd.func95, Tryd.ntmps95
  go_wp2_with fail
  refine (known_any _ _ hT).mono ?_
  rintro _ w1 ⟨rfl, g1, rfl⟩
  rw [show knownB 8 = true from rfl]
  go_wp2_with fail
  go_rounds 9
  go_ret
  refine ⟨w.heap.size + g1.size, rfl, (Grows.of _ _).alloc _, by omega, ?_⟩
  have h := Row.new_at (w.grow g1) #[Value.int .u8 ((V : Int) % 256), Value.int .u8 ((V : Int) / 256 % 256), Value.int .u8 ((V : Int) / 65536 % 256), Value.int .u8 ((V : Int) / 16777216 % 256), Value.int .u8 ((V : Int) / 4294967296 % 256), Value.int .u8 ((V : Int) / 1099511627776 % 256), Value.int .u8 ((V : Int) / 281474976710656 % 256), Value.int .u8 ((V : Int) / 72057594037927936 % 256)] 5 (b := w.heap.size + g1.size) (by simp)
  simpa [leB, Nat.div_div_eq_div_mul] using h
theorem store_yes (V W : Nat) (w : World) (hT : Widths w) (hk : knownB W = true) :
    Calls Tryd.prog 95 #[.int .u64 V, .int .i64 W] w (NewBytes w (leB V W)) := by
  have hw : W = 1 ∨ W = 4 ∨ W = 8 := by have := knownB_cases hk; omega
  rcases hw with rfl | rfl | rfl
  · exact store_1 V w hT
  · exact store_4 V w hT
  · exact store_8 V w hT
theorem rload_no (a : Option Addr) (n c : Nat) (at_ width : Int) (w : World) (hn : n ≤ 9223372036854775807)
    (h : knownB width = false ∨ at_ < 0 ∨ (n : Int) - width < at_) :
    Calls Tryd.prog 124 #[.slice a n c, .int .i64 at_, .int .i64 width] w fun r w' => r = .returned (.tuple #[.int .u64 0, .bool false]) ∧ Grows w w' := by
  cases hk : knownB width
  · obtain ⟨h1, h4, h8⟩ := knownB_false hk
    have e1 : (width != 1) = true := by simp [h1]
    have e4 : (width != 4) = true := by simp [h4]
    have e8 : (width != 8) = true := by simp [h8]
    clear h
    go_enter Tryd.func124, Tryd.ntmps124
    go_wp2_with fail
    go_ret2
    exact ⟨by simp, Grows.refl _⟩
  · by_cases h0 : at_ < 0
    · rcases knownB_cases hk with rfl | rfl | rfl
      all_goals
        clear h hk
        go_enter Tryd.func124, Tryd.ntmps124
        go_wp2_with fail
        go_ret2
        exact ⟨by simp, Grows.refl _⟩
    · have h2 : (n : Int) - width < at_ := by rcases h with h | h | h <;> simp_all
      rcases knownB_cases hk with rfl | rfl | rfl
      all_goals
        clear h hk
        go_enter Tryd.func124, Tryd.ntmps124
        go_wp2_with fail
        go_ret2
        exact ⟨by simp, Grows.refl _⟩
theorem drop_getD (bs : List Nat) {i : Nat} (h : i < bs.length) : leN (bs.drop i) = bs.getD i 0 + 256 * leN (bs.drop (i + 1)) := by
  rw [List.drop_eq_getElem_cons h]; simp [leN, List.getD, h]
set_option maxHeartbeats 1000000 in
theorem rload_yes (b o n c A W : Nat) (bs : List Nat) (w : World) (hnc : n ≤ c) (hc : c ≤ 9223372036854775807) (hk : knownB W = true) (hA : A + W ≤ n)
    (hl : bs.length = W) (hB : Bytes w b (o + A) bs) :
    Calls Tryd.prog 124 #[.slice (some ⟨b, o, none⟩) n c, .int .i64 A, .int .i64 W] w fun r w' => r = .returned (.tuple #[.int .u64 (loadN bs : Nat), .bool true]) ∧ Grows w w' := by
  obtain ⟨h256, hcell⟩ := hB
  have hw : W = 1 ∨ W = 4 ∨ W = 8 := by have := knownB_cases hk; omega
  have hw1 : 1 ≤ W := by omega
  have hw2 : W ≤ 8 := by omega
  have HL := Lib.hid hl
  have HC := Lib.hid hcell
  have HX := Lib.hid h256
  clear hl hcell h256 hk
  have h1 : ¬ (A : Int) < 0 := by omega
  have h2 : ¬ (n : Int) - W < A := by omega
  rcases hw with rfl | rfl | rfl
  · go_enter Tryd.func124, Tryd.ntmps124
    go_wp2_with fail
    go_loop [8, 9] (fun v i => ∃ j : Nat, j ≤ bs.length ∧ i = .int .i64 ((j : Int) - 1) ∧ v = .int .u64 (leN (bs.drop j) : Nat)) (fun _ i => (intOf i + 1).toNat)
    case atStart => exact ⟨1, by rw [HL.out]; exact Nat.le_refl _, rfl, by rw [List.drop_of_length_le (by rw [HL.out]; exact Nat.le_refl _)]; rfl⟩
    case round =>
      obtain ⟨j, hj, rfl, rfl⟩ := hrel
      rw [HL.out] at hj
      by_cases h0 : j = 0
      · subst h0
        rw [show ((0 : Nat) : Int) - 1 = -1 from rfl]
        have HV : Hid (leN bs < 256 ^ 1) := by
          have h1 := leN_lt (l := bs) HX.out
          rwa [HL.out] at h1
        have hv := HV.out
        simp at hv
        generalize hV : leN (bs.drop 0) = V
        have HQ : Hid (leN bs = V) := hV
        rw [HQ.out] at hv
        clear hV HV
        have HR : Hid ((loadN bs : Nat) = if 1 = 4 then sx32 V else V) := by show _ = _; unfold loadN; rw [HL.out, HQ.out]
        have HVV := Lib.hid hv
        clear hv
        go_wp2_with fail
        go_ret2
        refine ⟨?_, Grows.refl _⟩
        rw [HR.out]
        simp
      · obtain ⟨i, rfl⟩ : ∃ i, j = i + 1 := ⟨j - 1, by omega⟩
        have hcell : w.cell? ⟨b, o + (A + i), none⟩ = some (.int .u8 (bs.getD i 0 : Nat)) := by rw [← Nat.add_assoc]; exact HC.out i (by rw [HL.out]; omega)
        have hx := getD_lt HX.out i
        have hv : leN (bs.drop (i + 1)) < 256 ^ 7 := by
          have h1 := leN_lt (l := bs.drop (i + 1)) (fun x hx => HX.out x (List.mem_of_mem_drop hx))
          exact Nat.lt_of_lt_of_le h1 (Nat.pow_le_pow_right (by decide) (by rw [List.length_drop, HL.out]; omega))
        have h7 : (256 : Nat) ^ 7 = 72057594037927936 := by decide
        rw [h7] at hv
        have HS : Hid (leN (bs.drop i) = bs.getD i 0 + 256 * leN (bs.drop (i + 1))) := drop_getD bs (by rw [HL.out]; omega)
        generalize leN (bs.drop (i + 1)) = V at *
        generalize bs.getD i 0 = X at *
        clear h7
        have ei : ((i + 1 : Nat) : Int) - 1 = (i : Int) := by omega
        rw [ei]
        clear ei
        go_wp2_with fail
        exact ⟨⟨i, by rw [HL.out]; omega, rfl, by rw [HS.out]; congr 1; omega⟩, by simp [intOf]⟩
  · go_enter Tryd.func124, Tryd.ntmps124
    go_wp2_with fail
    go_loop [8, 9] (fun v i => ∃ j : Nat, j ≤ bs.length ∧ i = .int .i64 ((j : Int) - 1) ∧ v = .int .u64 (leN (bs.drop j) : Nat)) (fun _ i => (intOf i + 1).toNat)
    case atStart => exact ⟨4, by rw [HL.out]; exact Nat.le_refl _, rfl, by rw [List.drop_of_length_le (by rw [HL.out]; exact Nat.le_refl _)]; rfl⟩
    case round =>
      obtain ⟨j, hj, rfl, rfl⟩ := hrel
      rw [HL.out] at hj
      by_cases h0 : j = 0
      · subst h0
        rw [show ((0 : Nat) : Int) - 1 = -1 from rfl]
        have HV : Hid (leN bs < 256 ^ 4) := by
          have h1 := leN_lt (l := bs) HX.out
          rwa [HL.out] at h1
        have hv := HV.out
        simp at hv
        generalize hV : leN (bs.drop 0) = V
        have HQ : Hid (leN bs = V) := hV
        rw [HQ.out] at hv
        clear hV HV
        have HR : Hid ((loadN bs : Nat) = if 4 = 4 then sx32 V else V) := by show _ = _; unfold loadN; rw [HL.out, HQ.out]
        have HVV := Lib.hid hv
        clear hv
        cases hb : decide ((2147483648 : Int) ≤ V)
        · have HS : Hid (sx32 V = V) := if_pos (by have := of_decide_eq_false hb; omega)
          go_wp2_with fail
          go_ret2
          refine ⟨?_, Grows.refl _⟩
          rw [HR.out, HS.out]
          simp only [ite_self]
          rfl
        · have HS : Hid (IntKind.u64.wrap ((V : Int) + 18446744069414584320) = (sx32 V : Nat)) := by
            have h1 := of_decide_eq_true hb
            have h2 := HVV.out
            show _ = _
            rw [wrap_u64_small (by omega) (by omega)]
            unfold sx32
            rw [if_neg (by omega)]
            omega
          go_wp2_with fail
          go_ret2
          refine ⟨?_, Grows.refl _⟩
          rw [HR.out, if_pos trivial, ← HS.out]
          rfl
      · obtain ⟨i, rfl⟩ : ∃ i, j = i + 1 := ⟨j - 1, by omega⟩
        have hcell : w.cell? ⟨b, o + (A + i), none⟩ = some (.int .u8 (bs.getD i 0 : Nat)) := by rw [← Nat.add_assoc]; exact HC.out i (by rw [HL.out]; omega)
        have hx := getD_lt HX.out i
        have hv : leN (bs.drop (i + 1)) < 256 ^ 7 := by
          have h1 := leN_lt (l := bs.drop (i + 1)) (fun x hx => HX.out x (List.mem_of_mem_drop hx))
          exact Nat.lt_of_lt_of_le h1 (Nat.pow_le_pow_right (by decide) (by rw [List.length_drop, HL.out]; omega))
        have h7 : (256 : Nat) ^ 7 = 72057594037927936 := by decide
        rw [h7] at hv
        have HS : Hid (leN (bs.drop i) = bs.getD i 0 + 256 * leN (bs.drop (i + 1))) := drop_getD bs (by rw [HL.out]; omega)
        generalize leN (bs.drop (i + 1)) = V at *
        generalize bs.getD i 0 = X at *
        clear h7
        have ei : ((i + 1 : Nat) : Int) - 1 = (i : Int) := by omega
        rw [ei]
        clear ei
        go_wp2_with fail
        exact ⟨⟨i, by rw [HL.out]; omega, rfl, by rw [HS.out]; congr 1; omega⟩, by simp [intOf]⟩
  · go_enter Tryd.func124, Tryd.ntmps124
    go_wp2_with fail
    go_loop [8, 9] (fun v i => ∃ j : Nat, j ≤ bs.length ∧ i = .int .i64 ((j : Int) - 1) ∧ v = .int .u64 (leN (bs.drop j) : Nat)) (fun _ i => (intOf i + 1).toNat)
    case atStart => exact ⟨8, by rw [HL.out]; exact Nat.le_refl _, rfl, by rw [List.drop_of_length_le (by rw [HL.out]; exact Nat.le_refl _)]; rfl⟩
    case round =>
      obtain ⟨j, hj, rfl, rfl⟩ := hrel
      rw [HL.out] at hj
      by_cases h0 : j = 0
      · subst h0
        rw [show ((0 : Nat) : Int) - 1 = -1 from rfl]
        have HV : Hid (leN bs < 256 ^ 8) := by
          have h1 := leN_lt (l := bs) HX.out
          rwa [HL.out] at h1
        have hv := HV.out
        simp at hv
        generalize hV : leN (bs.drop 0) = V
        have HQ : Hid (leN bs = V) := hV
        rw [HQ.out] at hv
        clear hV HV
        have HR : Hid ((loadN bs : Nat) = if 8 = 4 then sx32 V else V) := by show _ = _; unfold loadN; rw [HL.out, HQ.out]
        have HVV := Lib.hid hv
        clear hv
        go_wp2_with fail
        go_ret2
        refine ⟨?_, Grows.refl _⟩
        rw [HR.out]
        simp
      · obtain ⟨i, rfl⟩ : ∃ i, j = i + 1 := ⟨j - 1, by omega⟩
        have hcell : w.cell? ⟨b, o + (A + i), none⟩ = some (.int .u8 (bs.getD i 0 : Nat)) := by rw [← Nat.add_assoc]; exact HC.out i (by rw [HL.out]; omega)
        have hx := getD_lt HX.out i
        have hv : leN (bs.drop (i + 1)) < 256 ^ 7 := by
          have h1 := leN_lt (l := bs.drop (i + 1)) (fun x hx => HX.out x (List.mem_of_mem_drop hx))
          exact Nat.lt_of_lt_of_le h1 (Nat.pow_le_pow_right (by decide) (by rw [List.length_drop, HL.out]; omega))
        have h7 : (256 : Nat) ^ 7 = 72057594037927936 := by decide
        rw [h7] at hv
        have HS : Hid (leN (bs.drop i) = bs.getD i 0 + 256 * leN (bs.drop (i + 1))) := drop_getD bs (by rw [HL.out]; omega)
        generalize leN (bs.drop (i + 1)) = V at *
        generalize bs.getD i 0 = X at *
        clear h7
        have ei : ((i + 1 : Nat) : Int) - 1 = (i : Int) := by omega
        rw [ei]
        clear ei
        go_wp2_with fail
        exact ⟨⟨i, by rw [HL.out]; omega, rfl, by rw [HS.out]; congr 1; omega⟩, by simp [intOf]⟩
theorem rstore_no (v width : Int) (w : World) (hk : knownB width = false) :
    Calls Tryd.prog 105 #[.int .u64 v, .int .i64 width] w fun r w' => r = .returned (.slice none 0 0) ∧ Grows w w' := by
  obtain ⟨h1, h4, h8⟩ := knownB_false hk
  have e1 : (width != 1) = true := by simp [h1]
  have e4 : (width != 4) = true := by simp [h4]
  have e8 : (width != 8) = true := by simp [h8]
  go_enter Tryd.func105, Tryd.ntmps105
  go_wp2_with fail
  go_ret
  exact ⟨rfl, Grows.refl _⟩
/-- A new slice of bytes, of whatever capacity. -/
def SomeBytes (w : World) (bs : List Nat) (r : Ending) (w' : World) : Prop :=
  ∃ b c, r = .returned (.slice (some ⟨b, 0, none⟩) bs.length c) ∧ bs.length ≤ c ∧ (c : Int) ≤ 9223372036854775807 ∧ Grows w w' ∧ w.heap.size ≤ b ∧ b < w'.heap.size ∧ Bytes w' b 0 bs
theorem someBytes_of_own {w wr : World} {e : TypeId} {v : Value} {bs : List Nat} (h : wr.ownsRow w.heap.size e 1 v bs.length (bs.map fun x => Value.int .u8 (x : Nat))) (h0 : 0 < bs.length)
    (hg : Grows w wr) (hb : ∀ x ∈ bs, x < 256) : SomeBytes w bs (.returned v) wr := by
  rcases h.2 with ⟨_, hz⟩ | ⟨g, cap, cur, rfl, hge, hh, hn, hm, hs, ht⟩
  · omega
  · refine ⟨g, cap, rfl, hn, by unfold maxLen at hm; omega, hg, hge, ?_, hb, fun i hi => ?_⟩
    · rcases Nat.lt_or_ge g wr.heap.size with h' | h'
      · exact h'
      · rw [Array.getElem?_eq_none h'] at hh; cases hh
    · have h1 : (cur.toList.take (bs.length * 1))[i]? = some (.int .u8 (bs.getD i 0 : Nat)) := by
        rw [ht, List.getElem?_map]; simp [List.getD, hi]
      rw [List.getElem?_take_of_lt (by omega)] at h1
      simp [World.cell?, hh]
      simpa using h1
theorem info_u8 : (Tryd.prog.info? 5).map (fun i => (i.zero, i.size, i.bytes)) = some (some (.int .u8 0), 1, 1) := by kernel_rfl
set_option maxHeartbeats 2000000 in
set_option maxRecDepth 100000 in
theorem rstore_1 (V : Nat) (w : World) :
    Calls Tryd.prog 105 #[.int .u64 V, .int .i64 1] w (SomeBytes w (leB V 1)) := by
  obtain ⟨i0, hi, hz0, hz1, hz2⟩ := info_parts info_u8
  go_enter Tryd.func105, Tryd.ntmps105
  go_wp2_with fail
  go_loopw [5, 6] (fun v i wr => ∃ k : Nat, k ≤ 1 ∧ i = .int .i64 k ∧ wr.ownsRow w.heap.size 5 1 v k ((leB V k).map fun x => Value.int .u8 (x : Nat)) ∧ Grows w wr) (fun _ i _ => (1 - intOf i).toNat)
  case atStart => exact ⟨0, by omega, rfl, ⟨rfl, Or.inl ⟨rfl, rfl⟩⟩, Grows.refl _⟩
  case round =>
    obtain ⟨k, hk, rfl, hown, hg⟩ := hrel
    by_cases hlt : k < 1
    · have HN : Hid ((leB V (k + 1)).map (fun x => Value.int .u8 (x : Nat)) = ((leB V k).map fun x => Value.int .u8 (x : Nat)) ++ [Value.int .u8 (V / 256 ^ k % 256 : Nat)]) := by
        show _ = _; rw [leB_snoc, List.map_append]; rfl
      have hsz := hg.size
      go_wp2_with (at_builtin; refine wpList_append_own _ rfl _ _ 70 rfl w.heap.size 5 i0 (.int .u8 0) 1 1 Tryd.underlying70 hi hz0 hz1 hz2 rfl (by decide) _ _ _ rfl (hown.alloc _) ⟨wr.heap.size, 0, none⟩ 1 1 [.int .u8 (V / 2 ^ (8 * k) % 256)] rfl rfl ?c1 ?c2 ?c3 ?c4 ?c5 ?_)
      case c1 => exact cell_one_new _ _ _
      case c2 => intro u hu; simp at hu; subst hu; rfl
      case c3 => unfold maxLen; omega
      case c4 => omega
      case c5 => simp; omega
      intro v' w1 hown1 hgrow _
      have hg1 : Grows w w1 := (hg.alloc _).grown hgrow (ownsRow_block hown)
      have HE : Hid ((V : Int) / 2 ^ (8 * k) % 256 = ((V / 256 ^ k % 256 : Nat) : Int)) := by
        show _ = _
        rw [Int.natCast_emod, Int.natCast_ediv, show (256 : Nat) ^ k = 2 ^ (8 * k) from (Nat.pow_mul 2 8 k).symm ▸ rfl, two_pow_cast]; rfl
      rw [HE.out, ← HN.out] at hown1
      clear hown hgrow
      go_wp2_with fail
      exact ⟨⟨k + 1, by omega, by go_num, hown1, hg1⟩, by simp [intOf]; omega⟩
    · have : k = 1 := by omega
      subst this
      go_wp2_with fail
      go_ret
      exact someBytes_of_own (bs := leB V 1) (by rw [leB_length]; exact hown) (by rw [leB_length]; decide) hg (leB_lt _ _)
set_option maxHeartbeats 2000000 in
set_option maxRecDepth 100000 in
theorem rstore_4 (V : Nat) (w : World) :
    Calls Tryd.prog 105 #[.int .u64 V, .int .i64 4] w (SomeBytes w (leB V 4)) := by
  obtain ⟨i0, hi, hz0, hz1, hz2⟩ := info_parts info_u8
  go_enter Tryd.func105, Tryd.ntmps105
  go_wp2_with fail
  go_loopw [5, 6] (fun v i wr => ∃ k : Nat, k ≤ 4 ∧ i = .int .i64 k ∧ wr.ownsRow w.heap.size 5 1 v k ((leB V k).map fun x => Value.int .u8 (x : Nat)) ∧ Grows w wr) (fun _ i _ => (4 - intOf i).toNat)
  case atStart => exact ⟨0, by omega, rfl, ⟨rfl, Or.inl ⟨rfl, rfl⟩⟩, Grows.refl _⟩
  case round =>
    obtain ⟨k, hk, rfl, hown, hg⟩ := hrel
    by_cases hlt : k < 4
    · have HN : Hid ((leB V (k + 1)).map (fun x => Value.int .u8 (x : Nat)) = ((leB V k).map fun x => Value.int .u8 (x : Nat)) ++ [Value.int .u8 (V / 256 ^ k % 256 : Nat)]) := by
        show _ = _; rw [leB_snoc, List.map_append]; rfl
      have hsz := hg.size
      go_wp2_with (at_builtin; refine wpList_append_own _ rfl _ _ 70 rfl w.heap.size 5 i0 (.int .u8 0) 1 1 Tryd.underlying70 hi hz0 hz1 hz2 rfl (by decide) _ _ _ rfl (hown.alloc _) ⟨wr.heap.size, 0, none⟩ 1 1 [.int .u8 (V / 2 ^ (8 * k) % 256)] rfl rfl ?c1 ?c2 ?c3 ?c4 ?c5 ?_)
      case c1 => exact cell_one_new _ _ _
      case c2 => intro u hu; simp at hu; subst hu; rfl
      case c3 => unfold maxLen; omega
      case c4 => omega
      case c5 => simp; omega
      intro v' w1 hown1 hgrow _
      have hg1 : Grows w w1 := (hg.alloc _).grown hgrow (ownsRow_block hown)
      have HE : Hid ((V : Int) / 2 ^ (8 * k) % 256 = ((V / 256 ^ k % 256 : Nat) : Int)) := by
        show _ = _
        rw [Int.natCast_emod, Int.natCast_ediv, show (256 : Nat) ^ k = 2 ^ (8 * k) from (Nat.pow_mul 2 8 k).symm ▸ rfl, two_pow_cast]; rfl
      rw [HE.out, ← HN.out] at hown1
      clear hown hgrow
      go_wp2_with fail
      exact ⟨⟨k + 1, by omega, by go_num, hown1, hg1⟩, by simp [intOf]; omega⟩
    · have : k = 4 := by omega
      subst this
      go_wp2_with fail
      go_ret
      exact someBytes_of_own (bs := leB V 4) (by rw [leB_length]; exact hown) (by rw [leB_length]; decide) hg (leB_lt _ _)
set_option maxHeartbeats 2000000 in
set_option maxRecDepth 100000 in
theorem rstore_8 (V : Nat) (w : World) :
    Calls Tryd.prog 105 #[.int .u64 V, .int .i64 8] w (SomeBytes w (leB V 8)) := by
  obtain ⟨i0, hi, hz0, hz1, hz2⟩ := info_parts info_u8
  go_enter Tryd.func105, Tryd.ntmps105
  go_wp2_with fail
  go_loopw [5, 6] (fun v i wr => ∃ k : Nat, k ≤ 8 ∧ i = .int .i64 k ∧ wr.ownsRow w.heap.size 5 1 v k ((leB V k).map fun x => Value.int .u8 (x : Nat)) ∧ Grows w wr) (fun _ i _ => (8 - intOf i).toNat)
  case atStart => exact ⟨0, by omega, rfl, ⟨rfl, Or.inl ⟨rfl, rfl⟩⟩, Grows.refl _⟩
  case round =>
    obtain ⟨k, hk, rfl, hown, hg⟩ := hrel
    by_cases hlt : k < 8
    · have HN : Hid ((leB V (k + 1)).map (fun x => Value.int .u8 (x : Nat)) = ((leB V k).map fun x => Value.int .u8 (x : Nat)) ++ [Value.int .u8 (V / 256 ^ k % 256 : Nat)]) := by
        show _ = _; rw [leB_snoc, List.map_append]; rfl
      have hsz := hg.size
      go_wp2_with (at_builtin; refine wpList_append_own _ rfl _ _ 70 rfl w.heap.size 5 i0 (.int .u8 0) 1 1 Tryd.underlying70 hi hz0 hz1 hz2 rfl (by decide) _ _ _ rfl (hown.alloc _) ⟨wr.heap.size, 0, none⟩ 1 1 [.int .u8 (V / 2 ^ (8 * k) % 256)] rfl rfl ?c1 ?c2 ?c3 ?c4 ?c5 ?_)
      case c1 => exact cell_one_new _ _ _
      case c2 => intro u hu; simp at hu; subst hu; rfl
      case c3 => unfold maxLen; omega
      case c4 => omega
      case c5 => simp; omega
      intro v' w1 hown1 hgrow _
      have hg1 : Grows w w1 := (hg.alloc _).grown hgrow (ownsRow_block hown)
      have HE : Hid ((V : Int) / 2 ^ (8 * k) % 256 = ((V / 256 ^ k % 256 : Nat) : Int)) := by
        show _ = _
        rw [Int.natCast_emod, Int.natCast_ediv, show (256 : Nat) ^ k = 2 ^ (8 * k) from (Nat.pow_mul 2 8 k).symm ▸ rfl, two_pow_cast]; rfl
      rw [HE.out, ← HN.out] at hown1
      clear hown hgrow
      go_wp2_with fail
      exact ⟨⟨k + 1, by omega, by go_num, hown1, hg1⟩, by simp [intOf]; omega⟩
    · have : k = 8 := by omega
      subst this
      go_wp2_with fail
      go_ret
      exact someBytes_of_own (bs := leB V 8) (by rw [leB_length]; exact hown) (by rw [leB_length]; decide) hg (leB_lt _ _)
theorem rstore_yes (V W : Nat) (w : World) (hk : knownB W = true) :
    Calls Tryd.prog 105 #[.int .u64 V, .int .i64 W] w (SomeBytes w (leB V W)) := by
  have hw : W = 1 ∨ W = 4 ∨ W = 8 := by have := knownB_cases hk; omega
  rcases hw with rfl | rfl | rfl
  · exact rstore_1 V w
  · exact rstore_4 V w
  · exact rstore_8 V w
end Go.Proofs.YtlchlklbjocliaaDoor

/- An argument that is a slice of structs of plain cells, opened: each element's cells lie in memory, each of its kind. -/
namespace Go
open Go.ChangeShapes Go.WideShapes Go.Deep
section
variable {H : Type} {enc : TypeId × Value → H} {P : Program} {w : World} {base : Nat} {spare : Nat → Bool} {held : Bool}
/-- A cell that reads as a datum of its type. -/
def Leaf (enc : TypeId × Value → H) (P : Program) (w : World) (t : TypeId) (c : Value) : Prop := ∃ base spare held fuel, ∃ x : DataW H × List MemPlace, DataW.trod enc P w base spare held fuel t [c] = some x
theorem Leaf.int {t : TypeId} {c : Value} {k : IntKind} (ht : P.underlying t = some (.int k)) (h : Leaf enc P w t c) : ∃ n, c = .int k n ∧ (Lit.int k n).wf = true := by
  obtain ⟨_, _, _, fuel, x, h⟩ := h
  cases fuel with
  | zero => simp [DataW.trod] at h
  | succ m =>
    unfold DataW.trod at h
    rw [ht] at h
    cases c <;> simp at h
    obtain ⟨⟨rfl, h1⟩, _⟩ := h
    exact ⟨_, rfl, h1⟩
theorem Leaf.bool {t : TypeId} {c : Value} (ht : P.underlying t = some .bool) (h : Leaf enc P w t c) : ∃ x, c = .bool x := by
  obtain ⟨_, _, _, fuel, x, h⟩ := h
  cases fuel with
  | zero => simp [DataW.trod] at h
  | succ m =>
    unfold DataW.trod at h
    rw [ht] at h
    cases c <;> simp at h
    exact ⟨_, rfl⟩
def LeafsOk (enc : TypeId × Value → H) (P : Program) (w : World) : List TypeId → List Value → Prop
  | [], [] => True
  | t :: ts, c :: cs => Leaf enc P w t c ∧ LeafsOk enc P w ts cs
  | _, _ => False
theorem LeafsOk.cons {t : TypeId} {ts : List TypeId} {cs : List Value} (h : LeafsOk enc P w (t :: ts) cs) : ∃ c cs', cs = c :: cs' ∧ Leaf enc P w t c ∧ LeafsOk enc P w ts cs' := by
  cases cs with
  | nil => exact h.elim
  | cons c cs => exact ⟨c, cs, rfl, h.1, h.2⟩
theorem LeafsOk.nil {cs : List Value} (h : LeafsOk enc P w [] cs) : cs = [] := by
  cases cs with
  | nil => rfl
  | cons c cs => exact h.elim
theorem LeafsOk.append : ∀ {ts us : List TypeId} {cs ds : List Value}, LeafsOk enc P w ts cs → LeafsOk enc P w us ds → LeafsOk enc P w (ts ++ us) (cs ++ ds)
  | [], _, [], _, _, h => h
  | _ :: _, _, _ :: _, _, h, g => ⟨h.1, LeafsOk.append h.2 g⟩
  | [], _, _ :: _, _, h, _ => h.elim
  | _ :: _, _, [], _, h, _ => h.elim
theorem LeafsOk.length : ∀ {ts : List TypeId} {cs : List Value}, LeafsOk enc P w ts cs → cs.length = ts.length
  | [], [], _ => rfl
  | _ :: _, _ :: _, h => by have := LeafsOk.length h.2; simp [this]
  | [], _ :: _, h => h.elim
  | _ :: _, [], h => h.elim
def leavesF (P : Program) (L : TypeId → Option (List TypeId)) : Nat → List Field → Option (List TypeId)
  | _, [] => some []
  | o, fd :: rest => match L fd.type with
    | some l => if fd.offset = o ∧ P.cellsOf fd.type = l.length then (leavesF P L (o + l.length) rest).map (l ++ ·) else none
    | none => none
/-- The types of the cells of a struct (of structs, of arrays) of numbers and bools. -/
def leaves (P : Program) : Nat → TypeId → Option (List TypeId)
  | 0, _ => none
  | f + 1, t => match P.underlying t with
    | some .bool => some [t]
    | some (.int _) => some [t]
    | some (.struct fs) => (leavesF P (leaves P f) 0 fs.toList).bind fun ts => if P.cellsOf t = ts.length then some ts else none
    | some (.array n e) => (leaves P f e).bind fun l => if P.cellsOf e = l.length ∧ P.cellsOf t = n * l.length then some (List.replicate n l).flatten else none
    | _ => none
theorem leavesF_ok {L : TypeId → Option (List TypeId)} (hL : ∀ {t : TypeId} {ts : List TypeId} {fuel : Nat} {cs : List Value} {x : DataW H × List MemPlace}, L t = some ts → DataW.trod enc P w base spare held fuel t cs = some x → LeafsOk enc P w ts cs) (cs : List Value) {fuel : Nat} :
    ∀ (fl : List Field) (o : Nat) (ts : List TypeId), leavesF P L o fl = some ts → (∀ fd ∈ fl, ∃ x : DataW H × List MemPlace, DataW.trod enc P w base spare held fuel fd.type ((cs.drop fd.offset).take (P.cellsOf fd.type)) = some x) → LeafsOk enc P w ts ((cs.drop o).take ts.length)
  | [], o, ts, h, _ => by
    simp [leavesF] at h; subst h; simp [LeafsOk]
  | fd :: rest, o, ts, h, g => by
    unfold leavesF at h
    cases hl : L fd.type with
    | none => simp [hl] at h
    | some l =>
      simp only [hl] at h
      split at h
      · rename_i hc
        obtain ⟨ho, hn⟩ := hc
        cases hr : leavesF P L (o + l.length) rest with
        | none => simp [hr] at h
        | some r =>
          simp [hr] at h
          subst h
          obtain ⟨x, hx⟩ := g fd (by simp)
          have h1 := hL hl hx
          have h2 := leavesF_ok hL cs rest (o + l.length) r hr (fun f hf => g f (by simp [hf]))
          rw [ho, hn] at h1
          have := h1.append h2
          rw [List.length_append, List.take_add, List.drop_drop]
          exact this
      · cases h
theorem leavesA_ok {l : List TypeId} (cs : List Value) : ∀ (n : Nat), (∀ i, i < n → LeafsOk enc P w l ((cs.drop (i * l.length)).take l.length)) → LeafsOk enc P w (List.replicate n l).flatten (cs.take (n * l.length))
  | 0, _ => by simp [LeafsOk]
  | n + 1, h => by
    have h1 := leavesA_ok cs n (fun i hi => h i (by omega))
    have h2 := h n (by omega)
    have := h1.append h2
    rw [Nat.add_mul, Nat.one_mul, List.take_add, List.replicate_succ', List.flatten_append]
    simpa using this
theorem leaves_ok : ∀ (f : Nat) {t : TypeId} {ts : List TypeId} {fuel : Nat} {cs : List Value} {x : DataW H × List MemPlace}, leaves P f t = some ts → DataW.trod enc P w base spare held fuel t cs = some x → LeafsOk enc P w ts cs
  | 0, _, _, _, _, _, h, _ => by simp [leaves] at h
  | f + 1, t, ts, fuel, cs, x, h, g => by
    unfold leaves at h
    split at h
    · rename_i ht
      simp at h; subst h
      obtain ⟨b, rfl, _⟩ := DataW.trod_bool ht g
      exact ⟨⟨base, spare, held, fuel, x, g⟩, trivial⟩
    · rename_i k ht
      simp at h; subst h
      cases fuel with
      | zero => simp [DataW.trod] at g
      | succ m =>
        have g' := g
        unfold DataW.trod at g'
        rw [ht] at g'
        split at g' <;> simp_all
        exact ⟨⟨base, spare, held, m + 1, x, g⟩, trivial⟩
    · rename_i fs ht
      cases hl : leavesF P (leaves P f) 0 fs.toList with
      | none => simp [hl] at h
      | some us =>
        simp [hl] at h
        obtain ⟨hn, rfl⟩ := h
        obtain ⟨xs, n, _, _, hlen, hxl, hf⟩ := DataW.trod_struct ht g
        have := leavesF_ok (fun {_ _ _ _ _} a b => leaves_ok f a b) cs (fuel := n) fs.toList 0 us hl (fun fd hfd => by
          obtain ⟨j, hj⟩ := List.getElem?_of_mem hfd
          have hj' : fs[j]? = some fd := by simpa using hj
          have hlt : j < fs.size := (Array.getElem?_eq_some_iff.1 hj').1
          exact ⟨xs[j]'(by omega), (hf j fd hj').trans (List.getElem?_eq_getElem (by omega))⟩)
        rw [List.drop_zero, List.take_of_length_le (by omega)] at this
        exact this
    · rename_i n e ht
      cases hl : leaves P f e with
      | none => simp [hl] at h
      | some l =>
        simp [hl] at h
        obtain ⟨⟨he, hn⟩, rfl⟩ := h
        obtain ⟨xs, m, _, _, hlen, hxl, hf⟩ := DataW.trod_array ht g
        have := leavesA_ok (enc := enc) (P := P) (w := w) (l := l) cs n (fun i hi => by
          have h1 := hf i hi
          rw [he, List.getElem?_eq_getElem (by omega)] at h1
          exact leaves_ok f hl h1)
        rw [List.take_of_length_le (by omega)] at this
        exact this
    · cases h
/-- A slice argument opened: `X i` are the cells of element i. -/
def SliceIs (enc : TypeId × Value → H) (P : Program) (w : World) (ts : List TypeId) (A : Option Addr) (n : Nat) (X : Nat → List Value) : Prop :=
  ∀ i, i < n → ∃ b o, A = some ⟨b, o, none⟩ ∧ b < w.heap.size ∧ LeafsOk enc P w ts (X i) ∧ ∀ j, j < ts.length → w.cell? ⟨b, o + (i * ts.length + j), none⟩ = (X i)[j]?
theorem cells?_lt {w : World} {base : Nat} {a : Addr} {n : Nat} {cs : List Value} (h : w.cells? base a n = some cs) (hn : 0 < n) : a.block < w.heap.size := by
  obtain ⟨_, hl, hc⟩ := World.cells?_some h
  have h0 := hc (i := 0) hn
  rcases Nat.lt_or_ge a.block w.heap.size with h' | h'
  · exact h'
  · exfalso
    have : w.cell? (a.add 0) = none := by
      simp [Addr.add, World.cell?, Array.getElem?_eq_none h']
    rw [this, List.getElem?_eq_getElem (by omega)] at h0
    cases h0
theorem open_rows {r : Reach} {b0 : Nat} {t e : TypeId} {v : Value} {d : DataW H} {ps : List MemPlace} {ts : List TypeId} {ts0 : List TypeId} {ds0 : List (DataW H)} (f j0 : Nat) (ht : P.underlying t = some (.slice e)) (hl : leaves P f e = some ts) (hC : P.cellsOf e = ts.length) (hp : 0 < ts.length)
    (hv : Value.okWide P w r b0 t v) (h : DataW.Trod enc P w base (fun _ => true) held t v d ps) (hz : (DataW.weightsEach P ts0 ds0).all (· ≤ reachBytes) = true) (ht0 : ts0[j0]? = some t) (hd0 : ds0[j0]? = some d) :
    ∃ A n c X, v = .slice A n c ∧ n ≤ c ∧ c ≤ maxLen ∧ c * P.bytesOf e < 140737488355328 ∧ SliceIs enc P w ts A n X ∧ (A = none → c = 0) := by
  obtain ⟨fuel, h⟩ := h
  rcases open_slice ht h with ⟨hc, _⟩ | ⟨a, len, cap, m, n, D, Pl, hc, hb, hle, hm, hmm, hx, hi⟩
  · have : v = .slice none 0 0 := by
      cases v <;> simp [Value.cells] at hc <;> simp_all [Value.okWide, Cell.okWide, Cell.ok]
    exact ⟨none, 0, 0, fun _ => [], this, Nat.le_refl _, by simp [maxLen], by simp, fun i hi => absurd hi (by omega), fun _ => rfl⟩
  · have hv' : v = .slice (some a) len cap := by
      cases v <;> simp [Value.cells] at hc <;> simp_all [Value.okWide, Cell.okWide, Cell.ok]
    subst hv'
    have hs : a.spot = none := by
      simp [Value.okWide, Cell.okWide, Cell.ok, ht] at hv
      exact hv.2.2.2.1
    simp at hmm
    subst hmm
    have hsz : m * P.bytesOf e < 140737488355328 := by
      obtain ⟨hd, _⟩ := Prod.mk.inj hx
      have := sized_slice hz ht0 (hd0.trans (congrArg some hd)) ht
      rw [List.length_map, List.length_map, List.length_range, List.length_range, show len + (m - len) = m by omega] at this
      exact Nat.lt_of_le_of_lt this (by decide)
    obtain ⟨X, hX⟩ := choose_lt hi
    refine ⟨some a, len, m, X, rfl, hle, hm, hsz, fun i hlt => ?_, fun h => by cases h⟩
    obtain ⟨h1, h2⟩ := hX i (by omega)
    rw [hC] at h1
    have hbl := cells?_lt h1 hp
    obtain ⟨_, hlen, hat⟩ := World.cells?_some h1
    refine ⟨a.block, a.off, ?_, ?_, leaves_ok f hl h2, fun j hj => ?_⟩
    · cases a; simp_all
    · simpa [Addr.add] using (show (a.add (i * ts.length)).block < _ from hbl) |> fun h => by
        unfold Addr.add at h; split at h <;> simpa using h
    · rw [← hat j hj, add_add]
      congr 1
      unfold Addr.add
      cases a
      simp at hs
      subst hs
      split
      · rename_i h0; simp at h0; simp [h0]
      · rfl
theorem trodAll_cons {t : TypeId} {ts : List TypeId} {v : Value} {vs : List Value} {ds : List (DataW H)} {ps : List MemPlace} (h : DataW.TrodAll enc P w base spare held (t :: ts) (v :: vs) ds ps) :
    ∃ d ds' p q, ds = d :: ds' ∧ DataW.Trod enc P w base spare held t v d p ∧ DataW.TrodAll enc P w base spare held ts vs ds' q := by
  cases ds with
  | nil => exact h.elim
  | cons d ds =>
    obtain ⟨p, q, h1, h2, _⟩ := h
    exact ⟨d, ds, p, q, rfl, h1, h2⟩
end
end Go

/- Arguments opened to the bottom: structs, arrays, and slices in them; each slice's size is bounded. -/
namespace Go
open Go.ChangeShapes Go.WideShapes Go.Deep
set_option linter.unusedSimpArgs false
set_option linter.unusedVariables false
set_option maxRecDepth 100000
section
variable {H : Type} {enc : TypeId × Value → H} {P : Program} {w : World}
/-- No slice, string or map in it is too large. -/
def Sized (P : Program) (t : TypeId) (d : DataW H) : Prop := (d.weights P t).all (· ≤ reachBytes) = true
theorem weights_mem_all {e : TypeId} : ∀ {ds : List (DataW H)} {j : Nat} {d : DataW H}, ds[j]? = some d → ∀ n ∈ d.weights P e, n ∈ DataW.weightsAll P e ds
  | d0 :: ds, 0, d, hd, n, hn => by
    simp only [List.getElem?_cons_zero, Option.some.injEq] at hd
    subst hd
    simp only [DataW.weightsAll, List.mem_append]
    exact Or.inl hn
  | d0 :: ds, j + 1, d, hd, n, hn => by
    simp only [List.getElem?_cons_succ] at hd
    simp only [DataW.weightsAll, List.mem_append]
    exact Or.inr (weights_mem_all hd n hn)
  | [], _, _, hd, _, _ => by simp at hd
theorem Sized.field {t : TypeId} {fs : Array Field} {xs : List (DataW H)} (ht : P.underlying t = some (.struct fs)) (h : Sized P t (.agg xs)) {j : Nat} {f : Field} {d : DataW H} (hf : fs[j]? = some f) (hd : xs[j]? = some d) : Sized P f.type d := by
  unfold Sized at *
  rw [List.all_eq_true] at *
  intro n hn
  refine h n ?_
  simp only [DataW.weights, ht]
  exact DataW.weights_mem_each (j := j) (t := f.type) (by simp [hf]) hd n hn
theorem Sized.elem {t e : TypeId} {k : Nat} {xs : List (DataW H)} (ht : P.underlying t = some (.array k e)) (h : Sized P t (.agg xs)) {j : Nat} {d : DataW H} (hd : xs[j]? = some d) : Sized P e d := by
  unfold Sized at *
  rw [List.all_eq_true] at *
  intro n hn
  refine h n ?_
  simp only [DataW.weights, ht]
  exact weights_mem_all hd n hn
theorem Sized.slice {t e : TypeId} {xs sp : List (DataW H)} (ht : P.underlying t = some (.slice e)) (h : Sized P t (.slice xs sp)) : (xs.length + sp.length) * P.bytesOf e ≤ reachBytes ∧ (∀ (j : Nat) (d : DataW H), xs[j]? = some d → Sized P e d) ∧ (∀ (j : Nat) (d : DataW H), sp[j]? = some d → Sized P e d) := by
  unfold Sized at *
  rw [List.all_eq_true] at h
  simp only [DataW.weights, ht] at h
  refine ⟨by simpa using h _ (List.mem_cons_self ..), fun j d hd => ?_, fun j d hd => ?_⟩
  · rw [List.all_eq_true]
    intro n hn
    exact h n (List.mem_cons_of_mem _ (List.mem_append_left _ (weights_mem_all hd n hn)))
  · rw [List.all_eq_true]
    intro n hn
    exact h n (List.mem_cons_of_mem _ (List.mem_append_right _ (weights_mem_all hd n hn)))
theorem Sized.of_each {ts : List TypeId} {ds : List (DataW H)} (h : (DataW.weightsEach P ts ds).all (· ≤ reachBytes) = true) {j : Nat} {t : TypeId} {d : DataW H} (ht : ts[j]? = some t) (hd : ds[j]? = some d) : Sized P t d := by
  unfold Sized
  rw [List.all_eq_true] at *
  intro n hn
  exact h n (DataW.weights_mem_each ht hd n hn)
/-- A cell that reads as a datum of its type, not too large. -/
def Leaf2 (enc : TypeId × Value → H) (P : Program) (w : World) (t : TypeId) (c : Value) : Prop :=
  ∃ base held fuel, ∃ x : DataW H × List MemPlace, DataW.trod enc P w base (fun _ => true) held fuel t [c] = some x ∧ Sized P t x.1
theorem Leaf2.int {t : TypeId} {c : Value} {k : IntKind} (ht : P.underlying t = some (.int k)) (h : Leaf2 enc P w t c) : ∃ n, c = .int k n ∧ (Lit.int k n).wf = true := by
  obtain ⟨base, held, fuel, x, h, _⟩ := h
  obtain ⟨n, hc, _, hw⟩ := DataW.trod_int ht h
  simp at hc
  exact ⟨n, hc, hw⟩
theorem Leaf2.bool {t : TypeId} {c : Value} (ht : P.underlying t = some .bool) (h : Leaf2 enc P w t c) : ∃ x, c = .bool x := by
  obtain ⟨base, held, fuel, x, h, _⟩ := h
  obtain ⟨b, hc, _⟩ := DataW.trod_bool ht h
  simp at hc
  exact ⟨b, hc⟩
def Leafs2 (enc : TypeId × Value → H) (P : Program) (w : World) : List TypeId → List Value → Prop
  | [], [] => True
  | t :: ts, c :: cs => Leaf2 enc P w t c ∧ Leafs2 enc P w ts cs
  | _, _ => False
theorem Leafs2.cons {t : TypeId} {ts : List TypeId} {cs : List Value} (h : Leafs2 enc P w (t :: ts) cs) : ∃ c cs', cs = c :: cs' ∧ Leaf2 enc P w t c ∧ Leafs2 enc P w ts cs' := by
  cases cs with
  | nil => exact h.elim
  | cons c cs => exact ⟨c, cs, rfl, h.1, h.2⟩
theorem Leafs2.nil {cs : List Value} (h : Leafs2 enc P w [] cs) : cs = [] := by
  cases cs with
  | nil => rfl
  | cons c cs => exact h.elim
theorem Leafs2.append : ∀ {ts us : List TypeId} {cs ds : List Value}, Leafs2 enc P w ts cs → Leafs2 enc P w us ds → Leafs2 enc P w (ts ++ us) (cs ++ ds)
  | [], _, [], _, _, h => h
  | _ :: _, _, _ :: _, _, h, g => ⟨h.1, Leafs2.append h.2 g⟩
  | [], _, _ :: _, _, h, _ => h.elim
  | _ :: _, _, [], _, h, _ => h.elim
theorem Leafs2.length : ∀ {ts : List TypeId} {cs : List Value}, Leafs2 enc P w ts cs → cs.length = ts.length
  | [], [], _ => rfl
  | _ :: _, _ :: _, h => by have := Leafs2.length h.2; simp [this]
  | [], _ :: _, h => h.elim
  | _ :: _, [], h => h.elim
theorem Leafs2.ints {t : TypeId} {k : IntKind} (ht : P.underlying t = some (.int k)) : ∀ (n : Nat) {ts : List TypeId} {cs : List Value}, Leafs2 enc P w (List.replicate n t ++ ts) cs →
    ∃ (ns : List Int) (cs' : List Value), cs = ns.map (.int k) ++ cs' ∧ ns.length = n ∧ (∀ x ∈ ns, (Lit.int k x).wf = true) ∧ Leafs2 enc P w ts cs'
  | 0, _, cs, h => ⟨[], cs, rfl, rfl, by simp, h⟩
  | n + 1, ts, cs, h => by
    obtain ⟨c, cs1, rfl, hc, h1⟩ := Leafs2.cons (show Leafs2 enc P w (t :: (List.replicate n t ++ ts)) cs from h)
    obtain ⟨x, rfl, hx⟩ := hc.int ht
    obtain ⟨ns, cs', rfl, hl, hw, h2⟩ := Leafs2.ints ht n h1
    exact ⟨x :: ns, cs', rfl, by simp [hl], by simpa using ⟨hx, hw⟩, h2⟩
/-- The types of the cells of a struct (of structs, of arrays) of numbers, bools and slices. -/
def leaves2 (P : Program) : Nat → TypeId → Option (List TypeId)
  | 0, _ => none
  | f + 1, t => match P.underlying t with
    | some .bool => some [t]
    | some (.int _) => some [t]
    | some (.slice _) => some [t]
    | some (.struct fs) => (leavesF P (leaves2 P f) 0 fs.toList).bind fun ts => if P.cellsOf t = ts.length then some ts else none
    | some (.array n e) => (leaves2 P f e).bind fun l => if P.cellsOf e = l.length ∧ P.cellsOf t = n * l.length then some (List.replicate n l).flatten else none
    | _ => none
theorem leavesF2_ok {base : Nat} {held : Bool} {L : TypeId → Option (List TypeId)} (hL : ∀ {t : TypeId} {ts : List TypeId} {fuel : Nat} {cs : List Value} {x : DataW H × List MemPlace}, L t = some ts → DataW.trod enc P w base (fun _ => true) held fuel t cs = some x → Sized P t x.1 → Leafs2 enc P w ts cs) (cs : List Value) {fuel : Nat} :
    ∀ (fl : List Field) (o : Nat) (ts : List TypeId), leavesF P L o fl = some ts → (∀ fd ∈ fl, ∃ x : DataW H × List MemPlace, DataW.trod enc P w base (fun _ => true) held fuel fd.type ((cs.drop fd.offset).take (P.cellsOf fd.type)) = some x ∧ Sized P fd.type x.1) → Leafs2 enc P w ts ((cs.drop o).take ts.length)
  | [], o, ts, h, _ => by
    simp [leavesF] at h; subst h; simp [Leafs2]
  | fd :: rest, o, ts, h, g => by
    unfold leavesF at h
    cases hl : L fd.type with
    | none => simp [hl] at h
    | some l =>
      simp only [hl] at h
      split at h
      · rename_i hc
        obtain ⟨ho, hn⟩ := hc
        cases hr : leavesF P L (o + l.length) rest with
        | none => simp [hr] at h
        | some r =>
          simp [hr] at h
          subst h
          obtain ⟨x, hx, hz⟩ := g fd (by simp)
          have h1 := hL hl hx hz
          have h2 := leavesF2_ok hL cs rest (o + l.length) r hr (fun f hf => g f (by simp [hf]))
          rw [ho, hn] at h1
          have := h1.append h2
          rw [List.length_append, List.take_add, List.drop_drop]
          exact this
      · cases h
theorem leavesA2_ok {l : List TypeId} (cs : List Value) : ∀ (n : Nat), (∀ i, i < n → Leafs2 enc P w l ((cs.drop (i * l.length)).take l.length)) → Leafs2 enc P w (List.replicate n l).flatten (cs.take (n * l.length))
  | 0, _ => by simp [Leafs2]
  | n + 1, h => by
    have h1 := leavesA2_ok cs n (fun i hi => h i (by omega))
    have h2 := h n (by omega)
    have := h1.append h2
    rw [Nat.add_mul, Nat.one_mul, List.take_add, List.replicate_succ', List.flatten_append]
    simpa using this
theorem leaves2_ok {base : Nat} {held : Bool} : ∀ (f : Nat) {t : TypeId} {ts : List TypeId} {fuel : Nat} {cs : List Value} {x : DataW H × List MemPlace}, leaves2 P f t = some ts → DataW.trod enc P w base (fun _ => true) held fuel t cs = some x → Sized P t x.1 → Leafs2 enc P w ts cs
  | 0, _, _, _, _, _, h, _, _ => by simp [leaves2] at h
  | f + 1, t, ts, fuel, cs, x, h, g, hz => by
    unfold leaves2 at h
    split at h
    · rename_i ht
      simp at h; subst h
      obtain ⟨b, rfl, _⟩ := DataW.trod_bool ht g
      exact ⟨⟨base, held, fuel, x, g, hz⟩, trivial⟩
    · rename_i k ht
      simp at h; subst h
      obtain ⟨n, rfl, _⟩ := DataW.trod_int ht g
      exact ⟨⟨base, held, fuel, x, g, hz⟩, trivial⟩
    · rename_i e ht
      simp at h; subst h
      rcases open_slice ht g with ⟨rfl, _⟩ | ⟨a, len, cap, _, _, _, _, rfl, _⟩
      · exact ⟨⟨base, held, fuel, x, g, hz⟩, trivial⟩
      · exact ⟨⟨base, held, fuel, x, g, hz⟩, trivial⟩
    · rename_i fs ht
      cases hl : leavesF P (leaves2 P f) 0 fs.toList with
      | none => simp [hl] at h
      | some us =>
        simp [hl] at h
        obtain ⟨hn, rfl⟩ := h
        obtain ⟨xs, n, _, rfl, hlen, hxl, hf⟩ := DataW.trod_struct ht g
        have := leavesF2_ok (fun {_ _ _ _ _} a b c => leaves2_ok f a b c) cs (fuel := n) fs.toList 0 us hl (fun fd hfd => by
          obtain ⟨j, hj⟩ := List.getElem?_of_mem hfd
          have hj' : fs[j]? = some fd := by simpa using hj
          have hlt : j < fs.size := (Array.getElem?_eq_some_iff.1 hj').1
          exact ⟨xs[j]'(by omega), (hf j fd hj').trans (List.getElem?_eq_getElem (by omega)), hz.field ht hj' (by simp [show j < xs.length by omega])⟩)
        rw [List.drop_zero, List.take_of_length_le (by omega)] at this
        exact this
    · rename_i n e ht
      cases hl : leaves2 P f e with
      | none => simp [hl] at h
      | some l =>
        simp [hl] at h
        obtain ⟨⟨he, hn⟩, rfl⟩ := h
        obtain ⟨xs, m, _, rfl, hlen, hxl, hf⟩ := DataW.trod_array ht g
        have := leavesA2_ok (enc := enc) (P := P) (w := w) (l := l) cs n (fun i hi => by
          have h1 := hf i hi
          rw [he, List.getElem?_eq_getElem (by omega)] at h1
          exact leaves2_ok f hl h1 (hz.elem ht (j := i) (by simp [show i < xs.length by omega])))
        rw [List.take_of_length_le (by omega)] at this
        exact this
    · cases h
/-- A slice opened: `X i` are the cells of element i. -/
def SliceIs2 (enc : TypeId × Value → H) (P : Program) (w : World) (ts : List TypeId) (A : Option Addr) (n : Nat) (X : Nat → List Value) : Prop :=
  ∀ i, i < n → ∃ b o, A = some ⟨b, o, none⟩ ∧ b < w.heap.size ∧ Leafs2 enc P w ts (X i) ∧ ∀ j, j < ts.length → w.cell? ⟨b, o + (i * ts.length + j), none⟩ = (X i)[j]?
theorem cells?_spot {w : World} {base : Nat} {a : Addr} {n : Nat} {cs : List Value} (h : w.cells? base a n = some cs) (hn : 0 < n) : a.spot = none := by
  obtain ⟨_, hl, hc⟩ := World.cells?_some h
  have h0 := hc (i := 0) hn
  rw [List.getElem?_eq_getElem (by omega)] at h0
  cases hs : a.spot with
  | none => rfl
  | some s =>
    exfalso
    have e : a.add 0 = a := by unfold Addr.add; simp
    rw [e] at h0
    simp [World.cell?, hs] at h0
    split at h0 <;> simp_all
theorem slice_ok {t e : TypeId} {c : Value} {ts : List TypeId} (f : Nat) {base : Nat} {held : Bool} {fuel : Nat} {x : DataW H × List MemPlace} (ht : P.underlying t = some (.slice e)) (hl : leaves2 P f e = some ts) (hC : P.cellsOf e = ts.length) (hp : 0 < ts.length)
    (h : DataW.trod enc P w base (fun _ => true) held fuel t [c] = some x) (hz : Sized P t x.1) :
    ∃ A n c' X, c = .slice A n c' ∧ n ≤ c' ∧ c' ≤ maxLen ∧ c' * P.bytesOf e < 140737488355328 ∧ SliceIs2 enc P w ts A n X ∧ (A = none → c' = 0) := by
  rcases open_slice ht h with ⟨hc, _⟩ | ⟨a, len, cap, m, n, D, Pl, hc, hb, hle, hm, hmm, rfl, hi⟩
  · simp at hc
    exact ⟨none, 0, 0, fun _ => [], hc, Nat.le_refl _, by simp [maxLen], by simp, fun i hi => absurd hi (by omega), fun _ => rfl⟩
  · simp at hc
    subst hc
    simp at hmm
    subst hmm
    obtain ⟨hs1, hs2, hs3⟩ := Sized.slice ht hz
    rw [List.length_map, List.length_map, List.length_range, List.length_range, show len + (m - len) = m by omega] at hs1
    obtain ⟨X, hX⟩ := choose_lt hi
    refine ⟨some a, len, m, X, rfl, hle, hm, Nat.lt_of_le_of_lt hs1 (by decide), fun i hlt => ?_, fun h => by cases h⟩
    obtain ⟨h1, h2⟩ := hX i (by omega)
    rw [hC] at h1
    have hbl := cells?_lt h1 hp
    have has : a.spot = none := by
      have h0 := (hX 0 (by omega)).1
      rw [hC, Nat.zero_mul] at h0
      have e : a.add 0 = a := by unfold Addr.add; simp
      rw [e] at h0
      exact cells?_spot h0 hp
    obtain ⟨_, hlen, hat⟩ := World.cells?_some h1
    refine ⟨a.block, a.off, ?_, ?_, leaves2_ok f hl h2 (hs2 i _ (by simp [hlt])), fun j hj => ?_⟩
    · cases a; simp_all
    · simpa [Addr.add] using (show (a.add (i * ts.length)).block < _ from hbl) |> fun h => by
        unfold Addr.add at h; split at h <;> simpa using h
    · rw [← hat j hj, add_add]
      congr 1
      unfold Addr.add
      cases a
      simp at has
      subst has
      split
      · rename_i h0; simp at h0; simp [h0]
      · rfl
theorem Leaf2.slice {t e : TypeId} {c : Value} {ts : List TypeId} (f : Nat) (ht : P.underlying t = some (.slice e)) (hl : leaves2 P f e = some ts) (hC : P.cellsOf e = ts.length) (hp : 0 < ts.length) (h : Leaf2 enc P w t c) :
    ∃ A n c' X, c = .slice A n c' ∧ n ≤ c' ∧ c' ≤ maxLen ∧ c' * P.bytesOf e < 140737488355328 ∧ SliceIs2 enc P w ts A n X ∧ (A = none → c' = 0) := by
  obtain ⟨base, held, fuel, x, h, hz⟩ := h
  exact slice_ok f ht hl hC hp h hz
/-- An argument that is one cell. -/
theorem open_leaf {t : TypeId} {v : Value} {d : DataW H} {base : Nat} {held : Bool} {ps : List MemPlace} (hc : v.cells.toList = [v]) (h : DataW.Trod enc P w base (fun _ => true) held t v d ps) (hz : Sized P t d) : Leaf2 enc P w t v := by
  obtain ⟨fuel, h⟩ := h
  rw [hc] at h
  exact ⟨base, held, fuel, _, h, hz⟩
/-- An argument that is a struct or an array, by value. -/
theorem open_agg2 {t : TypeId} {v : Value} {d : DataW H} {base : Nat} {held : Bool} {ps : List MemPlace} {ts : List TypeId} (f : Nat) (hl : leaves2 P f t = some ts) (h : DataW.Trod enc P w base (fun _ => true) held t v d ps) (hz : Sized P t d) : Leafs2 enc P w ts v.cells.toList := by
  obtain ⟨fuel, h⟩ := h
  exact leaves2_ok f hl h hz
/-- A slice argument. -/
theorem arg_one {r : Reach} {b0 : Nat} {t e : TypeId} {v : Value} (ht : P.underlying t = some (.slice e)) (hv : Value.okWide P w r b0 t v) : v.cells.toList = [v] := by
  cases v <;> simp_all [Value.okWide, Cell.okWide, Cell.ok, Value.cells]
theorem slice_arg {t e : TypeId} {v : Value} {d : DataW H} {base : Nat} {held : Bool} {ps : List MemPlace} {ts : List TypeId} (f : Nat) (ht : P.underlying t = some (.slice e)) (hl : leaves2 P f e = some ts) (hC : P.cellsOf e = ts.length) (hp : 0 < ts.length)
    (hc : v.cells.toList = [v]) (h : DataW.Trod enc P w base (fun _ => true) held t v d ps) (hz : Sized P t d) :
    ∃ A n c' X, v = .slice A n c' ∧ n ≤ c' ∧ c' ≤ maxLen ∧ c' * P.bytesOf e < 140737488355328 ∧ SliceIs2 enc P w ts A n X ∧ (A = none → c' = 0) :=
  (open_leaf hc h hz).slice f ht hl hC hp
/-- A struct or an array argument. -/
theorem agg_arg {r : Reach} {b0 : Nat} {t : TypeId} {v : Value} {d : DataW H} {base : Nat} {held : Bool} {ps : List MemPlace} {ts : List TypeId} (f : Nat) (hst : isRow (P.underlying t) = true) (hl : leaves2 P f t = some ts)
    (hv : Value.okWide P w r b0 t v) (h : DataW.Trod enc P w base (fun _ => true) held t v d ps) (hz : Sized P t d) : ∃ cs : List Value, v = .agg cs.toArray ∧ Leafs2 enc P w ts cs := by
  have h1 := open_agg2 f hl h hz
  have h' : ∃ cs, v = .agg cs := by
    unfold Value.okWide at hv
    unfold isRow at hst
    split at hv
    · exact ⟨_, hv.choose_spec.1⟩
    · exact ⟨_, hv.choose_spec.1⟩
    · split at hst
      · simp_all
      · simp_all
      · cases hst
  obtain ⟨cs, rfl⟩ := h'
  exact ⟨cs.toList, by simp, h1⟩
end
end Go

/- Bytes that come in: read, appended, told as a string. -/
namespace Go.Proofs.YtlchlklbjocliaaDoor
open Go Go.RowKit
set_option linter.unusedSimpArgs false
set_option linter.unusedVariables false
set_option maxRecDepth 100000
/-- A slice of bytes, nil let in. -/
def Src (w : World) (A : Option Addr) (bs : List Nat) : Prop :=
  (∀ x ∈ bs, x < 256) ∧ ((A = none ∧ bs = []) ∨ ∃ ad, A = some ad ∧ ∀ j, j < bs.length → ∃ b o, ad = ⟨b, o, none⟩ ∧ b < w.heap.size ∧ w.cell? ⟨b, o + j, none⟩ = some (.int .u8 (bs.getD j 0 : Nat)))
theorem Src.grows {w w' : World} {A : Option Addr} {bs : List Nat} (h : Src w A bs) (hg : Grows w w') : Src w' A bs := by
  refine ⟨h.1, ?_⟩
  rcases h.2 with h | ⟨ad, ha, h⟩
  · exact Or.inl h
  · refine Or.inr ⟨ad, ha, fun j hj => ?_⟩
    obtain ⟨b, o, e, hb, hc⟩ := h j hj
    exact ⟨b, o, e, hg.lt hb, by rw [hg.cell hb]; exact hc⟩
theorem Src.at0 {w : World} {A : Option Addr} {bs : List Nat} (h : Src w A bs) (h0 : 0 < bs.length) : ∃ b o, A = some ⟨b, o, none⟩ ∧ b < w.heap.size ∧ Bytes w b o bs := by
  rcases h.2 with ⟨_, e⟩ | ⟨ad, ha, hc⟩
  · rw [e] at h0; simp at h0
  · obtain ⟨b, o, rfl, hb, _⟩ := hc 0 h0
    refine ⟨b, o, ha, hb, h.1, fun i hi => ?_⟩
    obtain ⟨b', o', e, _, hc'⟩ := hc i hi
    injection e with e1 e2 e3
    subst e1; subst e2
    exact hc'
def strB (bs : List Nat) : ByteArray := strOfNums (bs.map fun x => ((x : Nat) : Int))
theorem conv_bytes {w : World} {b o n c : Nat} {bs : List Nat} (hn : bs.length = n) (h : Bytes w b o bs) : (convert 70 9 (.slice (some ⟨b, o, none⟩) n c)).run Tryd.prog w = .ok (.string (strB bs)) w := by
  refine run_convert_bytes_arg w 70 5 Tryd.underlying70 Tryd.underlying5 b o n c (bs.map fun x => ((x : Nat) : Int)) (by simpa using hn) (fun i hi => ?_) 9 Tryd.underlying9
  rw [h.2 i (by omega)]
  simp [List.getD, List.getElem?_map, List.getElem?_eq_getElem (show i < bs.length by omega)]
theorem conv_nil (w : World) (n c : Nat) : (convert 70 9 (.slice none n c)).run Tryd.prog w = .ok (.string (strB [])) w :=
  run_convert_bytes_nil w 70 5 Tryd.underlying70 Tryd.underlying5 n c 9 Tryd.underlying9
theorem conv_zero (w : World) (A : Option Addr) (c : Nat) : (convert 70 9 (.slice A 0 c)).run Tryd.prog w = .ok (.string (strB [])) w := by
  rw [run_convert_bytes_string w 70 9 5 _ 0 c Tryd.underlying70 Tryd.underlying5 Tryd.underlying9]
  cases A <;> simp [Conv.bytesToString, loadCells]
  all_goals rfl
theorem Src.conv {w : World} {A : Option Addr} {bs : List Nat} (h : Src w A bs) (n c : Nat) (hn : bs.length = n) : (convert 70 9 (.slice A n c)).run Tryd.prog w = .ok (.string (strB bs)) w := by
  rcases Nat.eq_zero_or_pos bs.length with h0 | h0
  · have : bs = [] := List.eq_nil_of_length_eq_zero h0
    subst this
    simp at hn
    subst hn
    exact conv_zero w A c
  · obtain ⟨b, o, rfl, _, hB⟩ := h.at0 h0
    exact conv_bytes hn hB
theorem strB_snoc (bs : List Nat) (x : Nat) (hx : x < 256) : strB (bs ++ [x]) = strB bs ++ ⟨#[UInt8.ofNat x]⟩ := by
  unfold strB strOfNums
  apply ByteArray.ext
  simp
abbrev u8s (bs : List Nat) : List Value := bs.map fun x => Value.int .u8 (x : Nat)
/-- append(s, x...) where x came in. -/
theorem wpList_append_src {w : World} {ops : Array Oper} {rest : List Oper} {o : Oper} {a : Act} {Q : Exit → Act → World → Prop} (hgd : o.guard = none) (s x : Operand)
    (ho : o.op = .call { callee := .builtin .append, args := #[s, x], argTypes := #[70, 70] }) (base : Nat) (v : Value) (n : Nat) (xs : List Nat) (hs : a.eval s = v) (hown : w.ownsRow base 5 1 v n (u8s xs))
    (A : Option Addr) (bs : List Nat) (m c : Nat) (hx : a.eval x = .slice A m c) (hm : bs.length = m) (hb : Src w A bs) (h47 : n + m ≤ 140737488355328) (hbase : base ≤ w.heap.size) (hc : A = none → c = 0)
    (h : ∀ v' w', w'.ownsRow base 5 1 v' (n + m) (u8s (xs ++ bs)) → w.grownBy w' v.ownBlock → (v' = .slice none 0 0 → v = .slice none 0 0) → wpList Tryd.prog ops Q rest (a.put o.dst v') w') : wpList Tryd.prog ops Q (o :: rest) a w := by
  obtain ⟨i0, hi, hz0, hz1, hz2⟩ := info_parts info_u8
  rcases hb.2 with ⟨rfl, rfl⟩ | ⟨ad, rfl, hcell⟩
  · simp at hm
    subst hm
    rw [hc rfl] at hx
    refine wpList_append_own_none hgd s x 70 ho base 5 i0 1 Tryd.underlying70 hi v n (u8s xs) hs hown hx ?_
    exact h v w (by simpa using hown) (World.grownBy.refl _ _) id
  · refine wpList_append_own _ hgd s x 70 ho base 5 i0 (.int .u8 0) 1 1 Tryd.underlying70 hi hz0 hz1 hz2 rfl (by decide) v n (u8s xs) hs hown ad m c (u8s bs) hx (by simpa using hm) (fun j u hu => ?_) (fun u hu => ?_) (by unfold maxLen; omega) (by omega) hbase (fun v' w' h1 h2 h3 => ?_)
    · have hj : j < bs.length := by
        rcases Nat.lt_or_ge j bs.length with h | h
        · exact h
        · rw [List.getElem?_eq_none (by simpa using h)] at hu; cases hu
      obtain ⟨b, o, rfl, _, hcj⟩ := hcell j hj
      have e : (⟨b, o, none⟩ : Addr).add j = ⟨b, o + j, none⟩ := by unfold Addr.add; split <;> simp_all
      rw [e, hcj]
      rw [List.getElem?_map, List.getElem?_eq_getElem hj] at hu
      simpa [List.getD, List.getElem?_eq_getElem hj] using hu
    · simp at hu
      obtain ⟨y, _, rfl⟩ := hu
      rfl
    · exact h v' w' (by rw [show u8s (xs ++ bs) = u8s xs ++ u8s bs by simp]; exact h1) h2 (fun h => (h3.1 h).1)
theorem bytes_grows {w w' : World} {b o : Nat} {bs : List Nat} (h : Bytes w b o bs) (hb : b < w.heap.size) (hg : Grows w w') : Bytes w' b o bs :=
  ⟨h.1, fun i hi => by rw [hg.cell hb]; exact h.2 i hi⟩
theorem bytes_part {w : World} {b o P L : Nat} {bs : List Nat} (h : Bytes w b o bs) (hP : P + L ≤ bs.length) : Bytes w b (o + P) ((bs.drop P).take L) := by
  refine ⟨fun x hx => h.1 x (List.mem_of_mem_drop (List.mem_of_mem_take hx)), fun i hi => ?_⟩
  simp at hi
  rw [Nat.add_assoc, h.2 (P + i) (by omega)]
  have : ((bs.drop P).take L).getD i 0 = bs.getD (P + i) 0 := by
    simp only [List.getD]
    rw [List.getElem?_take_of_lt (by omega), List.getElem?_drop]
  rw [this]
theorem bytes_head {w : World} {b o : Nat} {xs ys : List Nat} (h : Bytes w b o (xs ++ ys)) : Bytes w b o xs := by
  refine ⟨fun x hx => h.1 x (List.mem_append_left _ hx), fun i hi => ?_⟩
  rw [h.2 i (by simp; omega)]
  simp [List.getD, List.getElem?_append_left hi]
theorem strB_size (bs : List Nat) : (strB bs).size = bs.length := by
  unfold strB strOfNums
  simp [ByteArray.size]
theorem Src.of_bytes {w : World} {b o : Nat} {bs : List Nat} (h : Bytes w b o bs) (hb : b < w.heap.size) : Src w (some ⟨b, o, none⟩) bs :=
  ⟨h.1, Or.inr ⟨_, rfl, fun j hj => ⟨b, o, rfl, hb, h.2 j hj⟩⟩⟩
/-- Cells of bytes, one by one, are a slice of bytes. -/
theorem src_of_cells {W : World} {A : Option Addr} {n c : Nat} (hnc : n ≤ c) (hA : A = none → c = 0)
    (hx : ∀ i, i < n → ∃ y : Nat, y < 256 ∧ ∃ b o, A = some ⟨b, o, none⟩ ∧ b < W.heap.size ∧ W.cell? ⟨b, o + i, none⟩ = some (.int .u8 y)) : ∃ bs, Src W A bs ∧ bs.length = n := by
  obtain ⟨f, hf⟩ := Go.Deep.choose_lt (p := fun i y => y < 256 ∧ ∃ b o, A = some ⟨b, o, none⟩ ∧ b < W.heap.size ∧ W.cell? ⟨b, o + i, none⟩ = some (.int .u8 (y : Nat))) hx
  refine ⟨(List.range n).map f, ⟨?_, ?_⟩, by simp⟩
  · intro x hx
    simp at hx
    obtain ⟨i, hi, rfl⟩ := hx
    exact (hf i hi).1
  · cases A with
    | none =>
      left
      have : n = 0 := by have := hA rfl; omega
      subst this
      exact ⟨rfl, rfl⟩
    | some ad =>
      right
      refine ⟨ad, rfl, fun j hj => ?_⟩
      simp at hj
      obtain ⟨_, b, o, e, hb, hc⟩ := hf j hj
      refine ⟨b, o, by injection e, hb, ?_⟩
      rw [hc]
      simp [List.getD, hj]
section
variable {H : Type} {enc : TypeId × Value → H}
theorem src_of_slice {W : World} {A : Option Addr} {n c : Nat} {X : Nat → List Value} (hnc : n ≤ c) (hA : A = none → c = 0) (hX : SliceIs2 enc Tryd.prog W [5] A n X) : ∃ bs, Src W A bs ∧ bs.length = n := by
  refine src_of_cells hnc hA fun i hi => ?_
  obtain ⟨b, o, hA, hb, hL, hc⟩ := hX i hi
  obtain ⟨c0, cs0, e0, l0, hL⟩ := hL.cons
  obtain ⟨y, rfl, hy⟩ := l0.int Tryd.underlying5
  have hyb := bounds_u8 hy
  obtain ⟨Y, rfl⟩ := Int.eq_ofNat_of_zero_le (show 0 ≤ y by omega)
  refine ⟨Y, by omega, b, o, hA, hb, ?_⟩
  have := hc 0 (by decide)
  rw [e0] at this
  simpa using this
end
end Go.Proofs.YtlchlklbjocliaaDoor

/- copy and clear on a row of bytes that is known by a function. -/
namespace Go
open Go.RowKit
set_option linter.unusedSimpArgs false
set_option linter.unusedVariables false
set_option maxRecDepth 100000
theorem addr_add (b o j : Nat) : (⟨b, o, none⟩ : Addr).add j = ⟨b, o + j, none⟩ := by unfold Addr.add; split <;> simp_all
section
variable {P : Program} {w : World} {ops : Array Oper} {rest : List Oper} {o : Oper} {a : Act} {Q : Exit → Act → World → Prop}
/-- copy, as a run equation whose world is a name. -/
theorem run_copy_bts (dT sT ty elem : TypeId) (hu : P.underlying dT = some (.slice elem)) (hsz : (P.info? elem).map (·.size) = some 1)
    {dp sp : Option Addr} {dLen dCap sLen sCap q n at_ : Nat} {B : Nat → Nat} (h : Bts w q n B) (bs : List Nat) (hn : bs.length = Nat.min sLen dLen) (hb : ∀ x ∈ bs, x < 256)
    (hpos : 0 < bs.length → dp = some ⟨q, at_, none⟩ ∧ ∃ b o, sp = some ⟨b, o, none⟩ ∧ ∀ j, j < bs.length → w.cell? ⟨b, o + j, none⟩ = some (.int .u8 (bs.getD j 0 : Nat)))
    (hfit : at_ + bs.length ≤ n) :
    ∃ w', (Builtin.copy_ #[dT, sT] ty #[.slice dp dLen dCap, .slice sp sLen sCap]).run P w = .ok (goInt bs.length) w' ∧ Bts w' q n (putB B at_ bs) ∧ Chg [q] w w' := by
  by_cases h0 : bs.length = 0
  · obtain rfl : bs = [] := List.eq_nil_of_length_eq_zero h0
    exact ⟨w, run_copy_none (P := P) w dT sT ty elem dp sp dLen dCap sLen sCap hu hsz (by simpa using hn.symm), by rw [putB_nil]; exact h, Chg.refl _ _⟩
  · obtain ⟨rfl, b, of, rfl, hsrc⟩ := hpos (by omega)
    have h' := h
    obtain ⟨⟨cs, t, hr, hl, hc⟩, h256⟩ := h'
    have hrun := run_copy_row (P := P) w dT sT ty elem q at_ dLen dCap ⟨b, of, none⟩ sLen sCap cs t (bs.map fun x => Value.int .u8 (x : Nat)) hu hsz hr (by simpa using hn) (fun j v hj => by
      have hjl : j < bs.length := by
        rcases Nat.lt_or_ge j bs.length with h | h
        · exact h
        · rw [List.getElem?_eq_none (by simpa using h)] at hj; cases hj
      rw [addr_add, hsrc j hjl, ← hj, List.getElem?_map, List.getElem?_eq_getElem hjl]
      simp [List.getD, List.getElem?_eq_getElem hjl]) (by simp; omega) (by simp [Value.oneCell'])
    have h1 := Bts.splice h hfit hb hr
    refine ⟨_, hrun.trans ?_, h1, (Chg.refl _ _).setRow (Or.inl (by simp)) _⟩
    simp
theorem zeros_map (n : Nat) : (List.replicate n 0).map (fun x => Value.int .u8 ((x : Nat) : Int)) = List.replicate n (Value.int .u8 0) := by simp
theorem run_clear_bts (t e ty : TypeId) (ht : P.underlying t = some (.slice e)) (hv : ∀ w, (zeroValue e).run P w = .ok (.int .u8 0) w) {q n at_ k : Nat} {B : Nat → Nat} (h : Bts w q n B) (hk : at_ + k ≤ n) (h0 : 0 < k) (c : Nat) :
    (Builtin.clear_ #[t] ty #[.slice (some ⟨q, at_, none⟩) k c]).run P w = .ok (.tuple #[]) (w.setCells q at_ (List.replicate k (.int .u8 0))) ∧ Bts (w.setCells q at_ (List.replicate k (.int .u8 0))) q n (putB B at_ (List.replicate k 0)) ∧ Chg [q] w (w.setCells q at_ (List.replicate k (.int .u8 0))) := by
  refine ⟨Lib.run_clear_slice w t e ty (.int .u8 0) ht hv rfl rfl q at_ k c h0 (fun j hj => by rw [h.cell (by omega)]; rfl) (fun j hj => h.frozen _), ?_, Chg.setCells (Or.inl (by simp)) _ _ _ (Chg.refl _ _)⟩
  have := Bts.setCells (List.replicate k 0) at_ w B h (by simpa using hk) (by intro x hx; rw [List.eq_of_mem_replicate hx]; decide)
  rwa [zeros_map] at this
theorem run_clear_bts' (t e ty : TypeId) (ht : P.underlying t = some (.slice e)) (hv : ∀ w, (zeroValue e).run P w = .ok (.int .u8 0) w) {q n at_ k : Nat} {B : Nat → Nat} (h : Bts w q n B) (hk : at_ + k ≤ n) (h0 : 0 < k) (c : Nat) :
    ∃ w', (Builtin.clear_ #[t] ty #[.slice (some ⟨q, at_, none⟩) k c]).run P w = .ok (.tuple #[]) w' ∧ Bts w' q n (putB B at_ (List.replicate k 0)) ∧ Chg [q] w w' := ⟨_, run_clear_bts t e ty ht hv h hk h0 c⟩
end
end Go

/- A memory: what none, Frames, part, number of the package mem compute; a new one. -/
namespace Go.Proofs.YtlchlklbjocliaaDoor
open Go Go.RowKit
set_option linter.unusedSimpArgs false
set_option linter.unusedVariables false
set_option maxRecDepth 100000
/-- A struct at p whose one field is a slice of n bytes B, in the block q. -/
structure MemAt (t : TypeId) (w : World) (p q n : Nat) (B : Nat → Nat) : Prop where
  hd : ∃ c, n ≤ c ∧ c ≤ 9223372036854775807 ∧ Row w p #[.slice (some ⟨q, 0, none⟩) n c] t
  bts : Bts w q n B
  hn : n ≤ 16777216
  h0 : 0 < n
theorem MemAt.chg {t : TypeId} {S : List Nat} {w w' : World} {p q n : Nat} {B : Nat → Nat} (h : MemAt t w p q n B) (hc : Chg S w w') (hp : p ∉ S) (hq : q ∉ S) : MemAt t w' p q n B := by
  obtain ⟨⟨c, h1, h2, h3⟩, h4, h5, h6⟩ := h
  exact ⟨⟨c, h1, h2, h3.chg hc hp⟩, h4.chg hc hq, h5, h6⟩
theorem MemAt.grows {t : TypeId} {w w' : World} {p q n : Nat} {B : Nat → Nat} (h : MemAt t w p q n B) (hg : Grows w w') : MemAt t w' p q n B := h.chg (S := []) (Chg.of_grows hg) (by simp) (by simp)
theorem MemAt.ne {t : TypeId} {w : World} {p q n : Nat} {B : Nat → Nat} (h : MemAt t w p q n B) : p ≠ q := by
  intro e
  obtain ⟨⟨c, h1, h2, h3⟩, h4, h5, h6⟩ := h
  have := h4.cell h6
  rw [← e, h3.cell] at this
  simp at this
theorem MemAt.upd {t : TypeId} {w w' : World} {p q n : Nat} {B C : Nat → Nat} (h : MemAt t w p q n B) (hc : Chg [q] w w') (hb : Bts w' q n C) : MemAt t w' p q n C := by
  have hne := h.ne
  obtain ⟨⟨c, h1, h2, h3⟩, h4, h5, h6⟩ := h
  exact ⟨⟨c, h1, h2, h3.chg hc (by simpa using hne)⟩, hb, h5, h6⟩
theorem MemAt.plt {t : TypeId} {w : World} {p q n : Nat} {B : Nat → Nat} (h : MemAt t w p q n B) : p < w.heap.size := by
  obtain ⟨⟨c, h1, h2, h3⟩, h4, h5⟩ := h
  exact h3.lt
theorem MemAt.qlt {t : TypeId} {w : World} {p q n : Nat} {B : Nat → Nat} (h : MemAt t w p q n B) : q < w.heap.size := h.bts.blt
theorem MemAt.congr {t : TypeId} {w : World} {p q n : Nat} {B C : Nat → Nat} (h : MemAt t w p q n B) (he : ∀ i, i < n → B i = C i) : MemAt t w p q n C :=
  ⟨h.hd, h.bts.congr he, h.hn, h.h0⟩
abbrev Mem := MemAt 121
/-- What is wrong with k bytes from a place on. -/
def partE (n at_ : Nat) (k : Int) : Int := if k < 0 then 2 else if k ≤ n ∧ (at_ : Int) ≤ n - k then 0 else 12
/-- What is wrong with a number there. -/
def numE (n at_ : Nat) (width : Int) : Int := if knownB width = false then 2 else if (at_ : Int) % width ≠ 0 then 11 else partE n at_ width
theorem zero_u8 : ∀ w, (zeroValue 5).run Tryd.prog w = .ok (.int .u8 0) w := fun _ => by kernel_rfl
theorem size_u8 : (Tryd.prog.info? 5).map (·.size) = some 1 := by kernel_rfl
theorem run_make_u8 (F : Nat) (hF : F ≤ 65536) (w : World) : (Instr.makeSlice 70 (.int .i64 ((F : Int) * 256)) (.int .i64 ((F : Int) * 256))).run Tryd.prog w =
    .ok (.slice (some ⟨w.heap.size, 0, none⟩) (F * 256) (F * 256)) (w.alloc (.cells (madeCells #[.int .u8 0] (F * 256)) 5)) := by
  obtain ⟨i0, hi, hz0, hz1, hz2⟩ := info_parts info_u8
  have h := run_make (P := Tryd.prog) w 70 5 i0 (.int .u8 0) Tryd.underlying70 hi hz0 .i64 .i64 ((F : Int) * 256) ((F : Int) * 256) (by omega) (by omega) (by rw [hz2]; omega) (by omega)
  rw [h, hz1]
  have e : ((F : Int) * 256).toNat = F * 256 := by omega
  rw [e, Nat.mul_one]
  rfl
theorem nil_no {q n c : Nat} (w : World) : (binOp .eql 70 (.slice (some ⟨q, 0, none⟩) n c) (.slice none 0 0)).run Tryd.prog w = .ok (.bool false) w :=
  Lib.run_eql_slice_nil w 70 5 _ n c 0 0 Tryd.underlying70
theorem nil_no' {b o n c : Nat} (w : World) : (binOp .eql 70 (.slice (some ⟨b, o, none⟩) n c) (.slice none 0 0)).run Tryd.prog w = .ok (.bool false) w :=
  Lib.run_eql_slice_nil w 70 5 _ n c 0 0 Tryd.underlying70
theorem new_bad (F : Int) (hF : F < 1 ∨ 65536 < F) (w : World) :
    Calls Tryd.prog 19 #[.int .i64 F] w fun r w' => r = .returned (.tuple #[.pointer none, .int .i64 2]) ∧ Grows w w' := by
  by_cases h : F < 1
  · go_enter Tryd.func19, Tryd.ntmps19
    go_wp2_with fail
    go_ret2
    exact ⟨rfl, Grows.refl _⟩
  · have h2 : 65536 < F := by omega
    clear hF
    go_enter Tryd.func19, Tryd.ntmps19
    go_wp2_with fail
    go_ret2
    exact ⟨rfl, Grows.refl _⟩
theorem new_ok (F : Nat) (h1 : 1 ≤ F) (h2 : F ≤ 65536) (w : World) :
    Calls Tryd.prog 19 #[.int .i64 F] w fun r w' => ∃ p q, r = .returned (.tuple #[.pointer (some ⟨p, 0, none⟩), .int .i64 0]) ∧ Mem w' p q (F * 256) (fun _ => 0) ∧ Grows w w' ∧ w.heap.size ≤ p ∧ w.heap.size ≤ q ∧ q < p := by
  have hmk := run_make_u8 F h2
  go_enter Tryd.func19, Tryd.ntmps19
  go_wp2_with fail
  go_ret2
  have hb : Bts (w.alloc (Obj.cells (madeCells #[Value.int .u8 0] (F * 256)) 5)) w.heap.size (F * 256) (fun _ => 0) := Bts.made w _ _
  exact ⟨w.heap.size + 1, w.heap.size, rfl, ⟨⟨F * 256, Nat.le_refl _, by omega, Row.new_at _ _ _ (by simp)⟩, hb.grows ((Grows.refl _).alloc _), by omega, by omega⟩, ((Grows.refl _).alloc _).alloc _, by omega, Nat.le_refl _, by omega⟩
theorem none_any {p q n : Nat} {B : Nat → Nat} {w : World} (h : Mem w p q n B) :
    Calls Tryd.prog 80 #[.pointer (some ⟨p, 0, none⟩)] w fun r w' => r = .returned (.bool false) ∧ w' = w := by
  obtain ⟨⟨c, h1, h2, h3⟩, h4, h5⟩ := h
  have c0 : w.cell? ⟨p, 0, none⟩ = some (.slice (some ⟨q, 0, none⟩) n c) := h3.cell 0
  have e0 := nil_no (q := q) (n := n) (c := c)
  go_enter Tryd.func80, Tryd.ntmps80
  go_wp2_with fail
  go_ret
  exact ⟨rfl, rfl⟩
theorem frames_any {p q n : Nat} {B : Nat → Nat} {w : World} (h : Mem w p q n B) :
    Calls Tryd.prog 50 #[.pointer (some ⟨p, 0, none⟩)] w fun r w' => r = .returned (.int .i64 (n / 256 : Nat)) ∧ w' = w := by
  have hno := none_any h
  obtain ⟨⟨c, h1, h2, h3⟩, h4, h5, h6⟩ := h
  have c0 : w.cell? ⟨p, 0, none⟩ = some (.slice (some ⟨q, 0, none⟩) n c) := h3.cell 0
  go_enter Tryd.func50, Tryd.ntmps50
  go_wp2_with fail
  refine hno.mono ?_
  rintro _ _ ⟨rfl, rfl⟩
  go_wp2_with fail
  go_ret
  exact ⟨by simp, rfl⟩
theorem within_any {p q n : Nat} {B : Nat → Nat} {w : World} (h : Mem w p q n B) (bk bm ba A : Nat) (k : Int) (hk : 0 ≤ k) (hk2 : k ≤ 9223372036854775807) (hA : A < 18446744073709551616)
    (ck : w.cell? ⟨bk, 0, none⟩ = some (.int .i64 k)) (cm : w.cell? ⟨bm, 0, none⟩ = some (.pointer (some ⟨p, 0, none⟩))) (ca : w.cell? ⟨ba, 0, none⟩ = some (.int .u64 A))
    (lk : bk < w.heap.size) (lm : bm < w.heap.size) (la : ba < w.heap.size) :
    Calls Tryd.prog 91 #[.pointer (some ⟨bk, 0, none⟩), .pointer (some ⟨bm, 0, none⟩), .pointer (some ⟨ba, 0, none⟩)] w fun r w' => r = .returned (.bool (decide (k ≤ n ∧ (A : Int) ≤ n - k))) ∧ Grows w w' := by
  have lp := h.plt
  obtain ⟨⟨c, h1, h2, h3⟩, h4, h5, h6⟩ := h
  have c0 : w.cell? ⟨p, 0, none⟩ = some (.slice (some ⟨q, 0, none⟩) n c) := h3.cell 0
  clear h3 h4
  by_cases hkn : k ≤ n
  · have e2 : IntKind.u64.wrap ((n : Int) - k) = (n : Int) - k := wrap_u64_small (by omega) (by omega)
    have d1 : decide (k ≤ (n : Int)) = true := decide_eq_true hkn
    by_cases hA2 : (A : Int) ≤ n - k
    · go_enter Tryd.func91, Tryd.ntmps91
      go_wp2_with fail
      refine wp_region_grow (by kernel_rfl) (by kernel_rfl) ?_
      repeat (go_big_quiet_step (fail))
      refine wpQuiet_nil ?_
      intro _ hw'
      obtain ⟨g1, rfl⟩ := hw'
      go_wp2_with fail
      go_ret
      exact ⟨by simp; omega, Grows.of _ _⟩
    · go_enter Tryd.func91, Tryd.ntmps91
      go_wp2_with fail
      refine wp_region_grow (by kernel_rfl) (by kernel_rfl) ?_
      repeat (go_big_quiet_step (fail))
      refine wpQuiet_nil ?_
      intro _ hw'
      obtain ⟨g1, rfl⟩ := hw'
      go_wp2_with fail
      go_ret
      exact ⟨by simp; omega, Grows.of _ _⟩
  · have d1 : decide (k ≤ (n : Int)) = false := decide_eq_false hkn
    go_enter Tryd.func91, Tryd.ntmps91
    go_wp2_with fail
    refine wp_region_grow (by kernel_rfl) (by kernel_rfl) ?_
    repeat (go_big_quiet_step (fail))
    refine wpQuiet_nil ?_
    intro _ hw'
    obtain ⟨g1, rfl⟩ := hw'
    go_wp2_with fail
    go_ret
    exact ⟨by simp; omega, Grows.of _ _⟩
theorem part_neg {p q n : Nat} {B : Nat → Nat} {w : World} (h : Mem w p q n B) (A : Nat) (k : Int) (hk : k < 0) :
    Calls Tryd.prog 66 #[.pointer (some ⟨p, 0, none⟩), .int .u64 A, .int .i64 k] w fun r w' => r = .returned (.tuple #[.slice none 0 0, .int .i64 2]) ∧ Grows w w' := by
  have hno := fun w' (hg : Grows w w') => none_any (h.grows hg)
  have lp := h.plt
  go_enter Tryd.func66, Tryd.ntmps66
  go_wp2_with fail
  refine (hno _ ((((Grows.refl _).alloc _).alloc _).alloc _)).mono ?_
  rintro _ _ ⟨rfl, rfl⟩
  go_wp2_with fail
  go_ret2
  exact ⟨rfl, (((Grows.refl _).alloc _).alloc _).alloc _⟩
theorem part_no {p q n : Nat} {B : Nat → Nat} {w : World} (h : Mem w p q n B) (A : Nat) (k : Int) (hk : 0 ≤ k) (hk2 : k ≤ 9223372036854775807) (hA : A < 18446744073709551616) (hn : ¬ (k ≤ n ∧ (A : Int) ≤ n - k)) :
    Calls Tryd.prog 66 #[.pointer (some ⟨p, 0, none⟩), .int .u64 A, .int .i64 k] w fun r w' => r = .returned (.tuple #[.slice none 0 0, .int .i64 12]) ∧ Grows w w' := by
  have hno := fun w' (hg : Grows w w') => none_any (h.grows hg)
  have hwi := fun w' (hg : Grows w w') => within_any (w := w') (h.grows hg) (w.heap.size + 1 + 1) w.heap.size (w.heap.size + 1) A k hk hk2 hA
  have lp := h.plt
  have HN := Lib.hid hn
  clear hn
  go_enter Tryd.func66, Tryd.ntmps66
  go_wp2_with fail
  refine (hno _ ((((Grows.refl _).alloc _).alloc _).alloc _)).mono ?_
  rintro _ _ ⟨rfl, rfl⟩
  go_wp2_with fail
  refine (hwi _ ((((Grows.refl _).alloc _).alloc _).alloc _) ?_ ?_ ?_ ?_ ?_ ?_).mono ?_
  · exact (Row.new_at _ _ _ (by simp)).cell 0
  · exact ((Row.new_at _ _ _ rfl).grows (((Grows.refl _).alloc _).alloc _)).cell 0
  · exact ((Row.new_at _ _ _ (by simp)).grows ((Grows.refl _).alloc _)).cell 0
  · simp
  · simp; omega
  · simp
  rintro _ w1 ⟨rfl, g1, rfl⟩
  rw [decide_eq_false HN.out]
  go_wp2_with fail
  go_ret2
  exact ⟨rfl, ((((Grows.refl _).alloc _).alloc _).alloc _).grow _⟩
theorem part_ok {p q n : Nat} {B : Nat → Nat} {w : World} (h : Mem w p q n B) (A k : Nat) (hn : A + k ≤ n) :
    Calls Tryd.prog 66 #[.pointer (some ⟨p, 0, none⟩), .int .u64 A, .int .i64 k] w fun r w' => (∃ o, r = .returned (.tuple #[.slice (some ⟨q, o, none⟩) k k, .int .i64 0]) ∧ (0 < k → o = A)) ∧ Grows w w' := by
  have hno := fun w' (hg : Grows w w') => none_any (h.grows hg)
  have hN := h.hn
  have hwi := fun w' (hg : Grows w w') => within_any (w := w') (h.grows hg) (w.heap.size + 1 + 1) w.heap.size (w.heap.size + 1) A k (by omega) (by omega) (by omega)
  have lp := h.plt
  obtain ⟨⟨c, h1, h2, h3⟩, h4, h5, h6⟩ := h
  have c0 : w.cell? ⟨p, 0, none⟩ = some (.slice (some ⟨q, 0, none⟩) n c) := h3.cell 0
  clear h3 h4
  go_enter Tryd.func66, Tryd.ntmps66
  go_wp2_with fail
  refine (hno _ ((((Grows.refl _).alloc _).alloc _).alloc _)).mono ?_
  rintro _ _ ⟨rfl, rfl⟩
  go_wp2_with fail
  refine (hwi _ ((((Grows.refl _).alloc _).alloc _).alloc _) ?_ ?_ ?_ ?_ ?_ ?_).mono ?_
  · exact (Row.new_at _ _ _ (by simp)).cell 0
  · exact ((Row.new_at _ _ _ rfl).grows (((Grows.refl _).alloc _).alloc _)).cell 0
  · exact ((Row.new_at _ _ _ (by simp)).grows ((Grows.refl _).alloc _)).cell 0
  · simp
  · simp; omega
  · simp
  rintro _ w1 ⟨rfl, hg⟩
  rw [decide_eq_true (by omega)]
  have G1 : Grows w w1 := ((((Grows.refl _).alloc _).alloc _).alloc _).trans hg
  have cp : w1.cell? ⟨p, 0, none⟩ = some (.slice (some ⟨q, 0, none⟩) n c) := by rw [G1.cell lp]; exact c0
  have cm : w1.cell? ⟨w.heap.size, 0, none⟩ = some (.pointer (some ⟨p, 0, none⟩)) := ((Row.new_at _ _ _ rfl).grows ((((Grows.refl _).alloc _).alloc _).trans hg)).cell 0
  have ca : w1.cell? ⟨w.heap.size + 1, 0, none⟩ = some (.int .u64 A) := ((Row.new_at _ _ _ (by simp)).grows (((Grows.refl _).alloc _).trans hg)).cell 0
  have ck : w1.cell? ⟨w.heap.size + 1 + 1, 0, none⟩ = some (.int .i64 k) := ((Row.new_at _ _ _ (by simp)).grows hg).cell 0
  have HG := Lib.hid G1
  have l1 : w.heap.size + 1 + 1 < w1.heap.size := by have := hg.size; simp at this; omega
  have l2 := G1.lt lp
  have l3 : w.heap.size + 1 < w1.heap.size := by omega
  have l4 : w.heap.size < w1.heap.size := by omega
  clear hg G1 hno hwi c0
  by_cases hk0 : k = 0
  · subst hk0
    go_wp2_with fail
    refine wp_region_grow (by kernel_rfl) (by kernel_rfl) ?_
    repeat (go_big_quiet_step (fail))
    refine wpQuiet_nil ?_
    intro _ hw'
    obtain ⟨g1, rfl⟩ := hw'
    go_wp2_with fail
    go_ret2
    exact ⟨⟨0, rfl, by omega⟩, HG.out.trans (Grows.of _ _)⟩
  · go_wp2_with fail
    refine wp_region_grow (by kernel_rfl) (by kernel_rfl) ?_
    repeat (go_big_quiet_step (fail))
    refine wpQuiet_nil ?_
    intro _ hw'
    obtain ⟨g1, rfl⟩ := hw'
    go_wp2_with fail
    go_ret2
    exact ⟨⟨A, by simp [Nat.add_sub_cancel_left], fun _ => rfl⟩, HG.out.trans (Grows.of _ _)⟩
theorem number_bad {p q n : Nat} {B : Nat → Nat} {w : World} (h : Mem w p q n B) (A : Nat) (width : Int) (hA : A < 18446744073709551616) (he : numE n A width ≠ 0) :
    Calls Tryd.prog 94 #[.pointer (some ⟨p, 0, none⟩), .int .u64 A, .int .i64 width] w fun r w' => r = .returned (.tuple #[.slice none 0 0, .int .i64 (numE n A width)]) ∧ Grows w w' := by
  have hno := none_any h
  cases hk : knownB width
  · have hE : numE n A width = 2 := by simp [numE, hk]
    have HE := Lib.hid hE
    obtain ⟨h1, h4, h8⟩ := knownB_false hk
    have e1 : (width != 1) = true := by simp [h1]
    have e4 : (width != 4) = true := by simp [h4]
    have e8 : (width != 8) = true := by simp [h8]
    clear he hE h1 h4 h8 hk
    go_enter Tryd.func94, Tryd.ntmps94
    go_wp2_with fail
    refine hno.mono ?_
    rintro _ _ ⟨rfl, rfl⟩
    go_wp2_with fail
    go_ret2
    exact ⟨by rw [HE.out]; rfl, Grows.refl _⟩
  · by_cases ha : (A : Int) % width = 0
    · have hpn : ¬ (width ≤ n ∧ (A : Int) ≤ n - width) := by
        intro hh; apply he; simp [numE, hk, ha, partE, hh]
        have := knownB_cases hk; omega
      have hE : numE n A width = 12 := by
        have : ¬ width < 0 := by have := knownB_cases hk; omega
        simp [numE, hk, ha, partE, this]; omega
      have hno' := fun w' (hg : Grows w w') (hw : 0 ≤ width) (hw2 : width ≤ 9223372036854775807) => part_no (w := w') (h.grows hg) A width hw hw2 hA hpn
      have HE := Lib.hid hE
      have HP := Lib.hid hno'
      clear hpn he hE hno'
      rcases knownB_cases hk with rfl | rfl | rfl
      all_goals
        clear hk
        go_enter Tryd.func94, Tryd.ntmps94
        go_wp2_with fail
        refine hno.mono ?_
        rintro _ _ ⟨rfl, rfl⟩
        go_wp2_with fail
        refine (HP.out _ (Grows.refl _) (by omega) (by omega)).mono ?_
        rintro _ w1 ⟨rfl, hg⟩
        go_wp2_with fail
        go_ret2
        exact ⟨by rw [HE.out]; rfl, hg⟩
    · have hE : numE n A width = 11 := by simp [numE, hk, ha]
      have HE := Lib.hid hE
      clear he hE
      rcases knownB_cases hk with rfl | rfl | rfl
      · omega
      all_goals
        clear hk
        have hb : ∀ m : Int, ¬ (A : Int) % m = 0 → ((A : Int) % m != 0) = true := fun m h => by simp [h]
        have hb := hb _ ha
        go_enter Tryd.func94, Tryd.ntmps94
        go_wp2_with fail
        refine hno.mono ?_
        rintro _ _ ⟨rfl, rfl⟩
        go_wp2_with fail
        go_ret2
        exact ⟨by rw [HE.out]; rfl, Grows.refl _⟩
theorem numE_ok {n A : Nat} {width : Int} (h : numE n A width = 0) : ∃ W : Nat, width = W ∧ knownB (W : Nat) = true ∧ A % W = 0 ∧ A + W ≤ n ∧ W ≤ 8 ∧ 0 < W := by
  unfold numE at h
  cases hk : knownB width
  · simp [hk] at h
  · obtain ⟨W, rfl⟩ := Int.eq_ofNat_of_zero_le (show 0 ≤ width by have := knownB_cases hk; omega)
    have hc := knownB_cases hk
    by_cases ha : (A : Int) % W = 0
    · by_cases hh : (W : Int) ≤ n ∧ (A : Int) ≤ n - W
      · exact ⟨W, rfl, hk, by omega, by omega, by omega, by omega⟩
      · exfalso
        have : ¬ (W : Int) < 0 := by omega
        simp [hk, ha, partE, this] at h
        omega
    · simp [hk, ha] at h
theorem number_ok {p q n : Nat} {B : Nat → Nat} {w : World} (h : Mem w p q n B) (A W : Nat) (hk : knownB (W : Nat) = true) (ha : A % W = 0) (hn : A + W ≤ n) :
    Calls Tryd.prog 94 #[.pointer (some ⟨p, 0, none⟩), .int .u64 A, .int .i64 W] w fun r w' => r = .returned (.tuple #[.slice (some ⟨q, A, none⟩) W W, .int .i64 0]) ∧ Grows w w' := by
  have hno := none_any h
  have hN := h.hn
  have hp := part_ok h A W hn
  have hw : W = 1 ∨ W = 4 ∨ W = 8 := by have := knownB_cases hk; omega
  clear hk
  rcases hw with rfl | rfl | rfl
  · clear ha
    go_enter Tryd.func94, Tryd.ntmps94
    go_wp2_with fail
    refine hno.mono ?_
    rintro _ _ ⟨rfl, rfl⟩
    go_wp2_with fail
    refine hp.mono ?_
    rintro _ w1 ⟨⟨o, rfl, ho⟩, hg⟩
    obtain rfl := ho (by omega)
    go_wp2_with fail
    go_ret2
    exact ⟨rfl, hg⟩
  all_goals
    have hb : ∀ m : Nat, A % m = 0 → ((A : Int) % m != 0) = false := fun m h => by simp; omega
    have hb := hb _ ha
    clear ha
    simp only [Int.cast_ofNat_Int] at hb
    go_enter Tryd.func94, Tryd.ntmps94
    go_wp2_with fail
    refine hno.mono ?_
    rintro _ _ ⟨rfl, rfl⟩
    go_wp2_with fail
    refine hp.mono ?_
    rintro _ w1 ⟨⟨o, rfl, ho⟩, hg⟩
    obtain rfl := ho (by omega)
    go_wp2_with fail
    go_ret2
    exact ⟨rfl, hg⟩
theorem Load_bad {p q n : Nat} {B : Nat → Nat} {w : World} (h : Mem w p q n B) (A : Nat) (width : Int) (hA : A < 18446744073709551616) (he : numE n A width ≠ 0) :
    Calls Tryd.prog 81 #[.pointer (some ⟨p, 0, none⟩), .int .u64 A, .int .i64 width] w fun r w' => r = .returned (.tuple #[.int .u64 0, .int .i64 (numE n A width)]) ∧ Grows w w' := by
  have hnum := number_bad h A width hA he
  generalize numE n A width = E at *
  have hb : (E != 0) = true := by simp [he]
  go_enter Tryd.func81, Tryd.ntmps81
  go_wp2_with fail
  refine hnum.mono ?_
  rintro _ w1 ⟨rfl, hg⟩
  go_wp2_with fail
  go_ret2
  exact ⟨rfl, hg⟩
theorem segB_bytes {w : World} {q n : Nat} {B : Nat → Nat} (h : Bts w q n B) (A k : Nat) (hk : A + k ≤ n) : Bytes w q A (segB B A k) := by
  refine ⟨segB_lt (n := n) (fun i hi => h.byte hi) hk, fun i hi => ?_⟩
  rw [segB_length] at hi
  rw [h.cell (by omega), segB_getD _ _ _ hi]
theorem Load_ok {p q n : Nat} {B : Nat → Nat} {w : World} (hT : Widths w) (h : Mem w p q n B) (A W : Nat) (hk : knownB (W : Nat) = true) (ha : A % W = 0) (hn : A + W ≤ n) :
    Calls Tryd.prog 81 #[.pointer (some ⟨p, 0, none⟩), .int .u64 A, .int .i64 W] w fun r w' => r = .returned (.tuple #[.int .u64 (loadN (segB B A W)), .int .i64 0]) ∧ Grows w w' := by
  have hnum := number_ok h A W hk ha hn
  have hN := h.hn
  have hl := fun w' (hg : Grows w w') => load_yes q A W W 0 W (segB B A W) w' (hT.grows hg) (Nat.le_refl _) (by have := knownB_cases hk; omega) hk (by omega) (segB_length _ _ _) (by simpa using segB_bytes (h.grows hg).bts A W hn) (hg.lt h.qlt)
  generalize loadN (segB B A W) = V at *
  clear hk ha
  go_enter Tryd.func81, Tryd.ntmps81
  go_wp2_with fail
  refine hnum.mono ?_
  rintro _ w1 ⟨rfl, hg⟩
  go_wp2_with fail
  refine (hl _ hg).mono ?_
  rintro _ w2 ⟨rfl, hg2⟩
  go_wp2_with fail
  go_ret2
  exact ⟨rfl, hg.trans hg2⟩
theorem Store_bad {p q n : Nat} {B : Nat → Nat} {w : World} (h : Mem w p q n B) (A : Nat) (width v : Int) (hA : A < 18446744073709551616) (he : numE n A width ≠ 0) :
    Calls Tryd.prog 79 #[.pointer (some ⟨p, 0, none⟩), .int .u64 A, .int .i64 width, .int .u64 v] w fun r w' => r = .returned (.int .i64 (numE n A width)) ∧ Grows w w' := by
  have hnum := number_bad h A width hA he
  generalize numE n A width = E at *
  have hb : (E == 0) = false := by simp [he]
  go_enter Tryd.func79, Tryd.ntmps79
  go_wp2_with fail
  refine hnum.mono ?_
  rintro _ w1 ⟨rfl, hg⟩
  go_wp2_with fail
  go_ret
  exact ⟨rfl, hg⟩
theorem Store_ok {p q n : Nat} {B : Nat → Nat} {w : World} (hT : Widths w) (h : Mem w p q n B) (A W V : Nat) (hk : knownB (W : Nat) = true) (ha : A % W = 0) (hn : A + W ≤ n) :
    Calls Tryd.prog 79 #[.pointer (some ⟨p, 0, none⟩), .int .u64 A, .int .i64 W, .int .u64 V] w fun r w' => r = .returned (.int .i64 0) ∧ Mem w' p q n (putB B A (leB V W)) ∧ Chg [q] w w' := by
  have hnum := number_ok h A W hk ha hn
  have hN := h.hn
  have hl := fun w' (hg : Grows w w') => store_yes V W w' (hT.grows hg) hk
  have hb := leB_lt V W
  have hlen := leB_length V W
  generalize leB V W = L at *
  have HB := Lib.hid hb
  have HLen := Lib.hid hlen
  clear hk ha hb hlen
  go_enter Tryd.func79, Tryd.ntmps79
  go_wp2_with fail
  refine hnum.mono ?_
  rintro _ w1 ⟨rfl, hg⟩
  go_wp2_with fail
  refine (hl _ hg).mono ?_
  rintro _ w2 ⟨b, rfl, hg2, hb, hr⟩
  rw [HLen.out]
  have hM := h.grows (hg.trans hg2)
  have HG := Lib.hid (hg.trans hg2)
  have hsrc : ∀ j, j < L.length → w2.cell? ⟨b, 0 + j, none⟩ = some (.int .u8 (L.getD j 0 : Nat)) := fun j hj => by
    rw [hr.cell]; simp [List.getD, hj]
  have HS := Lib.hid hsrc
  clear hsrc hg hg2 hl hnum hb
  obtain ⟨w3, hrun, hB3, hC3⟩ := run_copy_bts (P := Tryd.prog) 70 70 3 5 Tryd.underlying70 size_u8 (dp := some ⟨q, A, none⟩) (sp := some ⟨b, 0, none⟩) (dLen := W) (dCap := W) (sLen := W) (sCap := W) hM.bts L (by rw [HLen.out]; exact (Nat.min_self _).symm) HB.out (fun _ => ⟨rfl, b, 0, rfl, HS.out⟩) (by rw [HLen.out]; exact hn)
  go_wp2_with fail
  go_ret
  exact ⟨rfl, hM.upd hC3 hB3, (Chg.of_grows HG.out).step hC3 (fun k hk => Or.inl hk)⟩
/-- A new slice whose bytes are a function's. -/
def NewB (w : World) (k : Nat) (C : Nat → Nat) (v : Value) (w' : World) : Prop :=
  ∃ b c, v = .slice (some ⟨b, 0, none⟩) k c ∧ k ≤ c ∧ c ≤ 9223372036854775807 ∧ Grows w w' ∧ w.heap.size ≤ b ∧ Bts w' b k C
theorem newB_of_own {w wr : World} {e : TypeId} {v : Value} {bs : List Nat} {k : Nat} (h : wr.ownsRow w.heap.size e 1 v k (u8s bs)) (hv : v ≠ .slice none 0 0) (hk : bs.length = k)
    (hg : Grows w wr) (hb : ∀ x ∈ bs, x < 256) : NewB w k (fun i => bs.getD i 0) v wr := by
  subst hk
  rcases h.2 with ⟨hn, hz⟩ | ⟨g, cap, cur, rfl, hge, hh, hn, hm, hs, ht⟩
  · exact absurd hn hv
  · refine ⟨g, cap, rfl, hn, by unfold maxLen at hm; omega, hg, hge, ⟨⟨cur, e, hh, by omega, fun i hi => ?_⟩, fun i hi => getD_lt hb i⟩⟩
    have h1 : (cur.toList.take (bs.length * 1))[i]? = some (.int .u8 (bs.getD i 0 : Nat)) := by
      rw [ht]; simp [u8s, List.getD, hi]
    rw [List.getElem?_take_of_lt (by omega)] at h1
    simpa using h1
theorem clone_nil (w : World) :
    Calls Tryd.prog 67 #[.slice none 0 0] w fun r w' => r = .returned (.slice none 0 0) ∧ w' = w := by
  have e0 : ∀ w, (binOp .eql 70 (.slice none 0 0) (.slice none 0 0)).run Tryd.prog w = .ok (.bool true) w := fun w => Lib.run_eql_slice_nil w 70 5 none 0 0 0 0 Tryd.underlying70
  go_enter Tryd.func67, Tryd.ntmps67
  go_wp2_with fail
  go_ret
  exact ⟨rfl, rfl⟩
theorem clone_any {w : World} {b o k c : Nat} {bs : List Nat} (h : Bytes w b o bs) (hb : b < w.heap.size) (hk : bs.length = k) (hk47 : k ≤ 140737488355328) :
    Calls Tryd.prog 67 #[.slice (some ⟨b, o, none⟩) k c] w fun r w' => ∃ v, r = .returned v ∧ NewB w k (fun i => bs.getD i 0) v w' := by
  have e0 := nil_no' (b := b) (o := o) (n := k) (c := c)
  have hown0 : (w.alloc (Obj.cells #[] 5)).ownsRow w.heap.size 5 1 (.slice (some ⟨w.heap.size, 0, none⟩) 0 0) 0 (u8s []) := ⟨rfl, Or.inr ⟨w.heap.size, 0, #[], rfl, Nat.le_refl _, Row.new _ _ _, Nat.le_refl _, by simp, rfl, rfl⟩⟩
  have hb0 := (Src.of_bytes h hb).grows ((Grows.refl w).alloc (Obj.cells #[] 5))
  have HO0 := Lib.hid hown0
  have HB0 := Lib.hid hb0
  have HB := Lib.hid h.1
  have HK := Lib.hid hk
  clear hown0 hb0 hk h
  go_enter Tryd.func67, Tryd.ntmps67
  go_wp2_with (at_builtin; refine wpList_append_src (hgd := by rfl) (s := .tmp 5) (x := .tmp 6) (ho := by rfl) (base := w.heap.size) (v := .slice (some ⟨w.heap.size, 0, none⟩) 0 0) (n := 0) (xs := []) (hs := by rfl) (hown := by exact HO0.out) (A := some ⟨b, o, none⟩) (bs := bs) (m := k) (c := c) (hx := by rfl) (hm := HK.out) (hb := by exact HB0.out) (h47 := by omega) (hbase := by simp) (hc := fun h => by cases h) (h := ?_); intro v1 w1 hown1 hgr1 hnn)
  go_ret
  exact ⟨v1, rfl, newB_of_own (by simpa using hown1) (fun e => by have := hnn e; cases this) HK.out (((Grows.refl w).alloc _).grown hgr1 (ownsRow_block HO0.out)) HB.out⟩
theorem partE_ok {n A : Nat} {k : Int} (h : partE n A k = 0) : ∃ K : Nat, k = K ∧ A + K ≤ n := by
  unfold partE at h
  by_cases h1 : k < 0
  · simp [h1] at h
  · by_cases h2 : k ≤ n ∧ (A : Int) ≤ n - k
    · exact ⟨k.toNat, by omega, by omega⟩
    · rw [if_neg h1, if_neg h2] at h; cases h
theorem part_bad {p q n : Nat} {B : Nat → Nat} {w : World} (h : Mem w p q n B) (A : Nat) (k : Int) (hA : A < 18446744073709551616) (hk2 : k ≤ 9223372036854775807) (he : partE n A k ≠ 0) :
    Calls Tryd.prog 66 #[.pointer (some ⟨p, 0, none⟩), .int .u64 A, .int .i64 k] w fun r w' => r = .returned (.tuple #[.slice none 0 0, .int .i64 (partE n A k)]) ∧ Grows w w' := by
  unfold partE at *
  by_cases h1 : k < 0
  · rw [if_pos h1]; exact part_neg h A k h1
  · by_cases h2 : k ≤ n ∧ (A : Int) ≤ n - k
    · rw [if_neg h1, if_pos h2] at he; exact absurd rfl he
    · rw [if_neg h1, if_neg h2]; exact part_no h A k (by omega) hk2 hA h2
theorem Bytes_bad {p q n : Nat} {B : Nat → Nat} {w : World} (h : Mem w p q n B) (A : Nat) (k : Int) (hA : A < 18446744073709551616) (hk2 : k ≤ 9223372036854775807) (he : partE n A k ≠ 0) :
    Calls Tryd.prog 28 #[.pointer (some ⟨p, 0, none⟩), .int .u64 A, .int .i64 k] w fun r w' => r = .returned (.tuple #[.slice none 0 0, .int .i64 (partE n A k)]) ∧ Grows w w' := by
  have hp := part_bad h A k hA hk2 he
  generalize partE n A k = E at *
  go_enter Tryd.func28, Tryd.ntmps28
  go_wp2_with fail
  refine hp.mono ?_
  rintro _ w1 ⟨rfl, hg⟩
  go_wp2_with fail
  refine (clone_nil _).mono ?_
  rintro _ _ ⟨rfl, rfl⟩
  go_wp2_with fail
  go_ret2
  exact ⟨rfl, hg⟩
theorem Bytes_ok {p q n : Nat} {B : Nat → Nat} {w : World} (h : Mem w p q n B) (A k : Nat) (hn : A + k ≤ n) :
    Calls Tryd.prog 28 #[.pointer (some ⟨p, 0, none⟩), .int .u64 A, .int .i64 k] w fun r w' => ∃ v, r = .returned (.tuple #[v, .int .i64 0]) ∧ NewB w k (fun i => B (A + i)) v w' := by
  have hN := h.hn
  have hp := part_ok h A k hn
  go_enter Tryd.func28, Tryd.ntmps28
  go_wp2_with fail
  refine hp.mono ?_
  rintro _ w1 ⟨⟨o, rfl, ho⟩, hg⟩
  have hB : Bytes w1 q o (segB B A k) := by
    rcases Nat.eq_zero_or_pos k with h0 | h0
    · subst h0
      exact ⟨fun x hx => by simp [segB] at hx, fun i hi => by simp [segB] at hi⟩
    · rw [ho h0]; exact segB_bytes (h.grows hg).bts A k hn
  have hcl := clone_any (c := k) hB (hg.lt h.qlt) (segB_length _ _ _) (by omega)
  clear ho hB
  go_wp2_with fail
  refine hcl.mono ?_
  rintro _ w2 ⟨v, rfl, b, c, rfl, hc1, hc2, hg2, hb, hBt⟩
  go_wp2_with fail
  go_ret2
  refine ⟨_, rfl, b, c, rfl, hc1, hc2, hg.trans hg2, by have := hg.size; omega, hBt.congr fun i hi => segB_getD _ _ _ hi⟩
theorem Put_bad {p q n : Nat} {B : Nat → Nat} {w : World} (h : Mem w p q n B) (A m c : Nat) (a : Option Addr) (hA : A < 18446744073709551616) (hm : m ≤ 9223372036854775807) (he : partE n A m ≠ 0) :
    Calls Tryd.prog 38 #[.pointer (some ⟨p, 0, none⟩), .int .u64 A, .slice a m c] w fun r w' => r = .returned (.int .i64 (partE n A m)) ∧ Grows w w' := by
  have hp := part_bad h A m hA (by omega) he
  generalize partE n A m = E at *
  have hb : (E == 0) = false := by simp [he]
  go_enter Tryd.func38, Tryd.ntmps38
  go_wp2_with fail
  refine hp.mono ?_
  rintro _ w1 ⟨rfl, hg⟩
  go_wp2_with fail
  go_ret
  exact ⟨rfl, hg⟩
theorem Put_ok {p q n : Nat} {B : Nat → Nat} {w : World} (h : Mem w p q n B) (A m c : Nat) (a : Option Addr) (bs : List Nat) (hs : Src w a bs) (hm : bs.length = m) (hn : A + m ≤ n) :
    Calls Tryd.prog 38 #[.pointer (some ⟨p, 0, none⟩), .int .u64 A, .slice a m c] w fun r w' => r = .returned (.int .i64 0) ∧ Mem w' p q n (putB B A bs) ∧ Chg [q] w w' := by
  have hN := h.hn
  have hp := part_ok h A m hn
  have HS := Lib.hid hs
  have HM := Lib.hid hm
  clear hs hm
  go_enter Tryd.func38, Tryd.ntmps38
  go_wp2_with fail
  refine hp.mono ?_
  rintro _ w1 ⟨⟨o, rfl, ho⟩, hg⟩
  have hM := h.grows hg
  obtain ⟨w3, hrun, hB3, hC3⟩ := run_copy_bts (P := Tryd.prog) 70 70 3 5 Tryd.underlying70 size_u8 (dp := some ⟨q, o, none⟩) (sp := a) (dLen := m) (dCap := m) (sLen := m) (sCap := c) (at_ := A) hM.bts bs (by rw [HM.out]; exact (Nat.min_self _).symm) HS.out.1 (fun h0 => by
    obtain ⟨b, o', e, hb, hB⟩ := (HS.out.grows hg).at0 h0
    exact ⟨by rw [ho (by rw [← HM.out]; exact h0)], b, o', e, hB.2⟩) (by rw [HM.out]; exact hn)
  rw [HM.out] at hrun
  clear ho
  go_wp2_with fail
  go_ret
  exact ⟨rfl, hM.upd hC3 hB3, (Chg.of_grows hg).step hC3 (fun k hk => Or.inl hk)⟩
theorem Clear_bad {p q n : Nat} {B : Nat → Nat} {w : World} (h : Mem w p q n B) (f : Int) (hf : f < 0 ∨ (n / 256 : Nat) ≤ f) :
    Calls Tryd.prog 76 #[.pointer (some ⟨p, 0, none⟩), .int .i64 f] w fun r w' => r = .returned (.int .i64 12) ∧ Grows w w' := by
  have hno := none_any h
  have hfr := frames_any h
  obtain ⟨N, hN⟩ : ∃ N, N = n / 256 := ⟨_, rfl⟩
  rw [← hN] at hf hfr
  clear hN
  by_cases h0 : f < 0
  · go_enter Tryd.func76, Tryd.ntmps76
    go_wp2_with fail
    refine hno.mono ?_
    rintro _ _ ⟨rfl, rfl⟩
    go_wp2_with fail
    go_ret
    exact ⟨rfl, Grows.refl _⟩
  · have hd : decide (f < 0) = false := decide_eq_false h0
    have hf2 : (N : Int) ≤ f := by omega
    clear hf
    go_enter Tryd.func76, Tryd.ntmps76
    go_wp2_with fail
    refine hno.mono ?_
    rintro _ _ ⟨rfl, rfl⟩
    go_wp2_with fail
    refine hfr.mono ?_
    rintro _ _ ⟨rfl, rfl⟩
    go_wp2_with fail
    go_ret
    exact ⟨rfl, Grows.refl _⟩
theorem Clear_ok {p q n : Nat} {B : Nat → Nat} {w : World} (h : Mem w p q n B) (f : Nat) (hf : f < n / 256) :
    Calls Tryd.prog 76 #[.pointer (some ⟨p, 0, none⟩), .int .i64 f] w fun r w' => r = .returned (.int .i64 0) ∧ Mem w' p q n (putB B (f * 256) (List.replicate 256 0)) ∧ Chg [q] w w' := by
  have hno := none_any h
  have hfr := frames_any h
  obtain ⟨N, hN⟩ : ∃ N, N = n / 256 := ⟨_, rfl⟩
  rw [← hN] at hf hfr
  have hle : f * 256 + 256 ≤ n := by omega
  have hn24 := h.hn
  obtain ⟨c, h1, h2, h3⟩ := h.hd
  have cp : w.cell? ⟨p, 0, none⟩ = some (.slice (some ⟨q, 0, none⟩) n c) := h3.cell 0
  have e256 : (f + 1) * 256 - f * 256 = 256 := by omega
  obtain ⟨w3, hrun, hB3, hC3⟩ := run_clear_bts' (P := Tryd.prog) (w := w) 70 5 0 Tryd.underlying70 zero_u8 (at_ := f * 256) (k := (f + 1) * 256 - f * 256) h.bts (by omega) (by omega) (c - f * 256)
  rw [e256] at hB3
  have HM := Lib.hid (h.upd hC3 hB3)
  have HC := Lib.hid hC3
  clear hN h hB3 hC3 e256 h3
  go_enter Tryd.func76, Tryd.ntmps76
  go_wp2_with fail
  refine hno.mono ?_
  rintro _ _ ⟨rfl, rfl⟩
  go_wp2_with fail
  refine hfr.mono ?_
  rintro _ _ ⟨rfl, rfl⟩
  go_wp2_with fail
  go_ret
  exact ⟨rfl, HM.out, HC.out⟩
theorem strB_beq {xs ys : List Nat} (hx : ∀ x ∈ xs, x < 256) (hy : ∀ x ∈ ys, x < 256) : ((strB xs).toList == (strB ys).toList) = decide (xs = ys) := by
  have e : ∀ zs : List Nat, (strB zs).toList = zs.map UInt8.ofNat := fun zs => by
    rw [ByteArray.toList_eq]
    unfold strB
    rw [strOfNums_data, List.map_map]
    rfl
  rw [e, e]
  by_cases h : xs = ys
  · subst h; simp
  · rw [decide_eq_false h]
    apply beq_eq_false_iff_ne.2
    intro h2
    apply h
    have back : ∀ zs : List Nat, (∀ x ∈ zs, x < 256) → (zs.map UInt8.ofNat).map UInt8.toNat = zs := fun zs hz => by
      rw [List.map_map]
      conv => rhs; rw [← List.map_id zs]
      refine List.map_congr_left fun x hx => ?_
      have := hz x hx
      simp [UInt8.toNat_ofNat']
      omega
    rw [← back xs hx, ← back ys hy, h2]
/-! Memories that no call made. -/
/-- nil, or a struct that is all zero. -/
def NoMem (w : World) (v : Option Addr) : Prop := v = none ∨ ∃ p, v = some ⟨p, 0, none⟩ ∧ Row w p #[.slice none 0 0] 121
theorem NoMem.chg {S : List Nat} {w w' : World} {v : Option Addr} (h : NoMem w v) (hc : Chg S w w') (hS : ∀ p, v = some ⟨p, 0, none⟩ → p ∉ S) : NoMem w' v := by
  rcases h with h | ⟨p, h, hr⟩
  · exact Or.inl h
  · exact Or.inr ⟨p, h, hr.chg hc (hS p h)⟩
theorem NoMem.grows {w w' : World} {v : Option Addr} (h : NoMem w v) (hg : Grows w w') : NoMem w' v := h.chg (S := []) (Chg.of_grows hg) (by simp)
theorem nil_yes (w : World) : (binOp .eql 70 (.slice none 0 0) (.slice none 0 0)).run Tryd.prog w = .ok (.bool true) w := Lib.run_eql_slice_nil w 70 5 none 0 0 0 0 Tryd.underlying70
theorem none_nob {v : Option Addr} {w : World} (h : NoMem w v) :
    Calls Tryd.prog 80 #[.pointer v] w fun r w' => r = .returned (.bool true) ∧ w' = w := by
  rcases h with rfl | ⟨p, rfl, hr⟩
  · go_enter Tryd.func80, Tryd.ntmps80
    go_wp2_with fail
    go_ret
    exact ⟨rfl, rfl⟩
  · have c0 : w.cell? ⟨p, 0, none⟩ = some (.slice none 0 0) := hr.cell 0
    have e0 := nil_yes
    go_enter Tryd.func80, Tryd.ntmps80
    go_wp2_with fail
    go_ret
    exact ⟨rfl, rfl⟩
theorem frames_nob {v : Option Addr} {w : World} (h : NoMem w v) :
    Calls Tryd.prog 50 #[.pointer v] w fun r w' => r = .returned (.int .i64 0) ∧ w' = w := by
  have hno := none_nob h
  go_enter Tryd.func50, Tryd.ntmps50
  go_wp2_with fail
  refine hno.mono ?_
  rintro _ _ ⟨rfl, rfl⟩
  go_wp2_with fail
  go_ret
  exact ⟨rfl, rfl⟩
theorem part_nob {v : Option Addr} {w : World} (h : NoMem w v) (A k : Int) :
    Calls Tryd.prog 66 #[.pointer v, .int .u64 A, .int .i64 k] w fun r w' => r = .returned (.tuple #[.slice none 0 0, .int .i64 1]) ∧ Grows w w' := by
  have hno := fun w' (hg : Grows w w') => none_nob (h.grows hg)
  go_enter Tryd.func66, Tryd.ntmps66
  go_wp2_with fail
  refine (hno _ ((((Grows.refl _).alloc _).alloc _).alloc _)).mono ?_
  rintro _ _ ⟨rfl, rfl⟩
  go_wp2_with fail
  go_ret2
  exact ⟨rfl, (((Grows.refl _).alloc _).alloc _).alloc _⟩
theorem number_nob {v : Option Addr} {w : World} (h : NoMem w v) (A k : Int) :
    Calls Tryd.prog 94 #[.pointer v, .int .u64 A, .int .i64 k] w fun r w' => r = .returned (.tuple #[.slice none 0 0, .int .i64 1]) ∧ Grows w w' := by
  have hno := none_nob h
  go_enter Tryd.func94, Tryd.ntmps94
  go_wp2_with fail
  refine hno.mono ?_
  rintro _ _ ⟨rfl, rfl⟩
  go_wp2_with fail
  go_ret2
  exact ⟨rfl, Grows.refl _⟩
theorem Load_nob {v : Option Addr} {w : World} (h : NoMem w v) (A k : Int) :
    Calls Tryd.prog 81 #[.pointer v, .int .u64 A, .int .i64 k] w fun r w' => r = .returned (.tuple #[.int .u64 0, .int .i64 1]) ∧ Grows w w' := by
  have hno := number_nob h A k
  go_enter Tryd.func81, Tryd.ntmps81
  go_wp2_with fail
  refine hno.mono ?_
  rintro _ w1 ⟨rfl, hg⟩
  go_wp2_with fail
  go_ret2
  exact ⟨rfl, hg⟩
theorem Store_nob {v : Option Addr} {w : World} (h : NoMem w v) (A k x : Int) :
    Calls Tryd.prog 79 #[.pointer v, .int .u64 A, .int .i64 k, .int .u64 x] w fun r w' => r = .returned (.int .i64 1) ∧ Grows w w' := by
  have hno := number_nob h A k
  go_enter Tryd.func79, Tryd.ntmps79
  go_wp2_with fail
  refine hno.mono ?_
  rintro _ w1 ⟨rfl, hg⟩
  go_wp2_with fail
  go_ret
  exact ⟨rfl, hg⟩
theorem Bytes_nob {v : Option Addr} {w : World} (h : NoMem w v) (A k : Int) :
    Calls Tryd.prog 28 #[.pointer v, .int .u64 A, .int .i64 k] w fun r w' => r = .returned (.tuple #[.slice none 0 0, .int .i64 1]) ∧ Grows w w' := by
  have hno := part_nob h A k
  go_enter Tryd.func28, Tryd.ntmps28
  go_wp2_with fail
  refine hno.mono ?_
  rintro _ w1 ⟨rfl, hg⟩
  go_wp2_with fail
  refine (clone_nil _).mono ?_
  rintro _ _ ⟨rfl, rfl⟩
  go_wp2_with fail
  go_ret2
  exact ⟨rfl, hg⟩
theorem Put_nob {v : Option Addr} {w : World} (h : NoMem w v) (A : Int) (a : Option Addr) (m c : Nat) (hm : m ≤ 9223372036854775807) :
    Calls Tryd.prog 38 #[.pointer v, .int .u64 A, .slice a m c] w fun r w' => r = .returned (.int .i64 1) ∧ Grows w w' := by
  have hno := part_nob h A m
  go_enter Tryd.func38, Tryd.ntmps38
  go_wp2_with fail
  refine hno.mono ?_
  rintro _ w1 ⟨rfl, hg⟩
  go_wp2_with fail
  go_ret
  exact ⟨rfl, hg⟩
theorem Clear_nob {v : Option Addr} {w : World} (h : NoMem w v) (f : Int) :
    Calls Tryd.prog 76 #[.pointer v, .int .i64 f] w fun r w' => r = .returned (.int .i64 1) ∧ w' = w := by
  have hno := none_nob h
  go_enter Tryd.func76, Tryd.ntmps76
  go_wp2_with fail
  refine hno.mono ?_
  rintro _ _ ⟨rfl, rfl⟩
  go_wp2_with fail
  go_ret
  exact ⟨rfl, rfl⟩
end Go.Proofs.YtlchlklbjocliaaDoor

/- What the functions of the reference of the package mem compute. -/
namespace Go.Proofs.YtlchlklbjocliaaDoor
open Go Go.RowKit
set_option linter.unusedSimpArgs false
set_option linter.unusedVariables false
set_option maxRecDepth 100000
abbrev RMem := MemAt 75
theorem rnew_bad (F : Int) (hF : F < 1 ∨ 65536 < F) (w : World) :
    Calls Tryd.prog 54 #[.int .i64 F] w fun r w' => r = .returned (.tuple #[.pointer none, .int .i64 2]) ∧ Grows w w' := by
  by_cases h : F < 1
  · go_enter Tryd.func54, Tryd.ntmps54
    go_wp2_with fail
    go_ret2
    exact ⟨rfl, Grows.refl _⟩
  · have h2 : 65536 < F := by omega
    clear hF
    go_enter Tryd.func54, Tryd.ntmps54
    go_wp2_with fail
    go_ret2
    exact ⟨rfl, Grows.refl _⟩
theorem rnew_ok (F : Nat) (h1 : 1 ≤ F) (h2 : F ≤ 65536) (w : World) :
    Calls Tryd.prog 54 #[.int .i64 F] w fun r w' => ∃ p q, r = .returned (.tuple #[.pointer (some ⟨p, 0, none⟩), .int .i64 0]) ∧ RMem w' p q (F * 256) (fun _ => 0) ∧ Grows w w' ∧ w.heap.size ≤ p ∧ w.heap.size ≤ q ∧ q < p := by
  have hmk := run_make_u8 F h2
  go_enter Tryd.func54, Tryd.ntmps54
  go_wp2_with fail
  go_ret2
  have hb : Bts (w.alloc (Obj.cells (madeCells #[Value.int .u8 0] (F * 256)) 5)) w.heap.size (F * 256) (fun _ => 0) := Bts.made w _ _
  exact ⟨w.heap.size + 1, w.heap.size, rfl, ⟨⟨F * 256, Nat.le_refl _, by omega, Row.new_at _ _ _ (by simp)⟩, hb.grows ((Grows.refl _).alloc _), by omega, by omega⟩, ((Grows.refl _).alloc _).alloc _, by omega, Nat.le_refl _, by omega⟩
theorem lies_any {p q n : Nat} {B : Nat → Nat} {w : World} (h : RMem w p q n B) (A : Nat) (k : Int) (hk : 0 ≤ k) (hk2 : k ≤ 9223372036854775807) (hA : A < 18446744073709551616) :
    Calls Tryd.prog 106 #[.pointer (some ⟨p, 0, none⟩), .int .u64 A, .int .i64 k] w fun r w' => r = .returned (.bool (decide (k ≤ n ∧ (A : Int) ≤ n - k))) ∧ w' = w := by
  have hn := h.hn
  obtain ⟨c, h1, h2, h3⟩ := h.hd
  have c0 : w.cell? ⟨p, 0, none⟩ = some (.slice (some ⟨q, 0, none⟩) n c) := h3.cell 0
  clear h3 h
  by_cases hkn : k ≤ n
  · have e2 : IntKind.u64.wrap ((n : Int) - k) = (n : Int) - k := wrap_u64_small (by omega) (by omega)
    have d1 : decide (k ≤ (n : Int)) = true := decide_eq_true hkn
    by_cases hA2 : (A : Int) ≤ n - k
    · go_enter Tryd.func106, Tryd.ntmps106
      go_wp2_with fail
      go_ret
      exact ⟨by simp; omega, rfl⟩
    · go_enter Tryd.func106, Tryd.ntmps106
      go_wp2_with fail
      go_ret
      exact ⟨by simp; omega, rfl⟩
  · have d1 : decide (k ≤ (n : Int)) = false := decide_eq_false hkn
    go_enter Tryd.func106, Tryd.ntmps106
    go_wp2_with fail
    go_ret
    exact ⟨by simp [hkn], rfl⟩
theorem wrong_any {p q n : Nat} {B : Nat → Nat} {w : World} (h : RMem w p q n B) (A : Nat) (width : Int) (hA : A < 18446744073709551616) :
    Calls Tryd.prog 104 #[.pointer (some ⟨p, 0, none⟩), .int .u64 A, .int .i64 width] w fun r w' => r = .returned (.int .i64 (numE n A width)) ∧ w' = w := by
  cases hk : knownB width
  · have hE : numE n A width = 2 := by simp [numE, hk]
    have HE := Lib.hid hE
    obtain ⟨h1, h4, h8⟩ := knownB_false hk
    have e1 : (width != 1) = true := by simp [h1]
    have e4 : (width != 4) = true := by simp [h4]
    have e8 : (width != 8) = true := by simp [h8]
    clear hE h1 h4 h8 hk
    go_enter Tryd.func104, Tryd.ntmps104
    go_wp2_with fail
    go_ret
    exact ⟨by rw [HE.out]; rfl, rfl⟩
  · by_cases ha : (A : Int) % width = 0
    · have hli := fun hw hw2 => lies_any h A width hw hw2 hA
      have hE : numE n A width = if decide (width ≤ n ∧ (A : Int) ≤ n - width) = true then 0 else 12 := by
        have : ¬ width < 0 := by have := knownB_cases hk; omega
        simp [numE, hk, ha, partE, this]
      generalize decide (width ≤ n ∧ (A : Int) ≤ n - width) = D at *
      have HE := Lib.hid hE
      clear hE
      rcases knownB_cases hk with rfl | rfl | rfl
      all_goals
        clear hk
        have hli := hli (by omega) (by omega)
        cases D
        all_goals
          go_enter Tryd.func104, Tryd.ntmps104
          go_wp2_with fail
          refine hli.mono ?_
          rintro _ _ ⟨rfl, rfl⟩
          go_wp2_with fail
          go_ret
          exact ⟨by rw [HE.out]; rfl, rfl⟩
    · have hE : numE n A width = 11 := by simp [numE, hk, ha]
      have HE := Lib.hid hE
      clear hE
      rcases knownB_cases hk with rfl | rfl | rfl
      · omega
      all_goals
        clear hk
        have hb : ∀ m : Int, ¬ (A : Int) % m = 0 → ((A : Int) % m != 0) = true := fun m h => by simp [h]
        have hb := hb _ ha
        go_enter Tryd.func104, Tryd.ntmps104
        go_wp2_with fail
        go_ret
        exact ⟨by rw [HE.out]; rfl, rfl⟩
theorem rLoad_bad {p q n : Nat} {B : Nat → Nat} {w : World} (h : RMem w p q n B) (A : Nat) (width : Int) (hA : A < 18446744073709551616) (he : numE n A width ≠ 0) :
    Calls Tryd.prog 123 #[.pointer (some ⟨p, 0, none⟩), .int .u64 A, .int .i64 width] w fun r w' => r = .returned (.tuple #[.int .u64 0, .int .i64 (numE n A width)]) ∧ Grows w w' := by
  have hnum := wrong_any h A width hA
  generalize numE n A width = E at *
  have hb : (E != 0) = true := by simp [he]
  go_enter Tryd.func123, Tryd.ntmps123
  go_wp2_with fail
  refine hnum.mono ?_
  rintro _ _ ⟨rfl, rfl⟩
  go_wp2_with fail
  go_ret2
  exact ⟨rfl, Grows.refl _⟩
theorem numE_zero {n A W : Nat} (hk : knownB (W : Nat) = true) (ha : A % W = 0) (hn : A + W ≤ n) : numE n A (W : Nat) = 0 := by
  have h1 : ((A : Int) % (W : Int)) = 0 := by have := Int.natCast_emod A W; omega
  have h2 : ¬ (W : Int) < 0 := by omega
  simp [numE, hk, h1, partE, h2]
  omega
theorem rLoad_ok {p q n : Nat} {B : Nat → Nat} {w : World} (h : RMem w p q n B) (A W : Nat) (hk : knownB (W : Nat) = true) (ha : A % W = 0) (hn : A + W ≤ n) :
    Calls Tryd.prog 123 #[.pointer (some ⟨p, 0, none⟩), .int .u64 A, .int .i64 W] w fun r w' => r = .returned (.tuple #[.int .u64 (loadN (segB B A W)), .int .i64 0]) ∧ Grows w w' := by
  have hN := h.hn
  have hnum := wrong_any h A W (by omega)
  rw [numE_zero hk ha hn] at hnum
  obtain ⟨c, h1, h2, h3⟩ := h.hd
  have c0 : w.cell? ⟨p, 0, none⟩ = some (.slice (some ⟨q, 0, none⟩) n c) := h3.cell 0
  have hl := rload_yes q 0 n c A W (segB B A W) w h1 h2 hk hn (segB_length _ _ _) (by simpa using segB_bytes h.bts A W hn)
  generalize loadN (segB B A W) = V at *
  clear hk ha h h3
  go_enter Tryd.func123, Tryd.ntmps123
  go_wp2_with fail
  refine hnum.mono ?_
  rintro _ _ ⟨rfl, rfl⟩
  go_wp2_with fail
  refine hl.mono ?_
  rintro _ w2 ⟨rfl, hg2⟩
  go_wp2_with fail
  go_ret2
  exact ⟨rfl, hg2⟩
theorem rStore_bad {p q n : Nat} {B : Nat → Nat} {w : World} (h : RMem w p q n B) (A : Nat) (width v : Int) (hA : A < 18446744073709551616) (he : numE n A width ≠ 0) :
    Calls Tryd.prog 100 #[.pointer (some ⟨p, 0, none⟩), .int .u64 A, .int .i64 width, .int .u64 v] w fun r w' => r = .returned (.int .i64 (numE n A width)) ∧ Grows w w' := by
  have hnum := wrong_any h A width hA
  generalize numE n A width = E at *
  have hb : (E != 0) = true := by simp [he]
  go_enter Tryd.func100, Tryd.ntmps100
  go_wp2_with fail
  refine hnum.mono ?_
  rintro _ _ ⟨rfl, rfl⟩
  go_wp2_with fail
  go_ret
  exact ⟨rfl, Grows.refl _⟩
theorem rStore_ok {p q n : Nat} {B : Nat → Nat} {w : World} (h : RMem w p q n B) (A W V : Nat) (hk : knownB (W : Nat) = true) (ha : A % W = 0) (hn : A + W ≤ n) :
    Calls Tryd.prog 100 #[.pointer (some ⟨p, 0, none⟩), .int .u64 A, .int .i64 W, .int .u64 V] w fun r w' => r = .returned (.int .i64 0) ∧ RMem w' p q n (putB B A (leB V W)) ∧ Chg [q] w w' := by
  have hN := h.hn
  have hnum := wrong_any h A W (by omega)
  rw [numE_zero hk ha hn] at hnum
  have hl := rstore_yes V W w hk
  have hb := leB_lt V W
  have hlen := leB_length V W
  generalize leB V W = L at *
  have HB := Lib.hid hb
  have HLen := Lib.hid hlen
  clear hk ha hb hlen
  go_enter Tryd.func100, Tryd.ntmps100
  go_wp2_with fail
  refine hnum.mono ?_
  rintro _ _ ⟨rfl, hw⟩
  rw [hw]
  clear hw
  go_wp2_with fail
  refine hl.mono ?_
  rintro _ w2 ⟨b, c, he, hc1, hc2, hg, hb, hbl, hB⟩
  rw [HLen.out] at he hc1
  subst he
  have hM := h.grows hg
  have hbq : b ≠ q := by have := h.qlt; omega
  have HG := Lib.hid hg
  have HS := Lib.hid hB.2
  clear hg hl hnum hb hB h
  go_wp2_with fail
  go_loopw [11] (fun i wr => ∃ k : Nat, k ≤ W ∧ i = .int .i64 k ∧ RMem wr p q n (putB B A (L.take k)) ∧ Chg [q] w2 wr) (fun i _ => (W - intOf i).toNat)
  case atStart => exact ⟨0, by omega, rfl, by rw [List.take_zero, putB_nil]; exact hM, Chg.refl _ _⟩
  case round =>
    obtain ⟨k, hk, rfl, hMr, hCr⟩ := hrel
    by_cases hlt : k < W
    · have HX : Hid (L.getD k 0 < 256) := getD_lt HB.out k
      have HP : Hid (putB B A (L.take (k + 1)) = put1 (putB B A (L.take k)) (A + k) (L.getD k 0)) := by
        show _ = _
        rw [take_succ_getD L (by rw [HLen.out]; exact hlt), putB_snoc, List.length_take, HLen.out, Nat.min_eq_left hk]
      have HSk : Hid (w2.cell? ⟨b, k, none⟩ = some (.int .u8 (L.getD k 0 : Nat))) := by
        have := HS.out k (by rw [HLen.out]; exact hlt)
        rwa [Nat.zero_add] at this
      generalize L.getD k 0 = X at *
      generalize putB B A (L.take k) = C at *
      go_wp2_with fail
      obtain ⟨Z, hV⟩ : ∃ V, V = World.drew wr := ⟨_, rfl⟩
      have hZ : Grows wr Z := by rw [hV]; exact (Grows.refl _).drew
      refine wp_region_still_tail 13 (by kernel_rfl) (by kernel_rfl) ?_
      simp only [List.take_succ_cons, List.take_zero, List.drop_succ_cons, List.drop_zero]
      change wpStill _ _ (World.drew wr) _ _ _
      rw [← hV]
      have HZ := Lib.hid hV
      clear hV
      have hMz := hMr.grows hZ
      obtain ⟨cc, h1, h2, h3⟩ := hMz.hd
      have c0 : Z.cell? ⟨p, 0, none⟩ = some (.slice (some ⟨q, 0, none⟩) n cc) := h3.cell 0
      have c1 : Z.cell? ⟨q, A + k, none⟩ = some (.int .u8 (C (A + k) : Nat)) := hMz.bts.cell (by omega)
      have f1 := hMz.bts.frozen (A + k)
      have c2 : Z.cell? ⟨b, k, none⟩ = some (.int .u8 X) := by
        rw [hZ.cell (hCr.lt hbl), hCr.cell hbl (by simpa using hbq)]; exact HSk.out
      have i1 : A + k < n := by omega
      have i2 : (A : Int) + k < n := by omega
      have i3 : (0 : Int) ≤ A + k := by omega
      have i4 : IntKind.i64.wrap (A : Int) = A := by rw [IntKind.wrap_i64]; omega
      have i5 : IntKind.i64.wrap ((A : Int) + k) = A + k := by rw [IntKind.wrap_i64]; omega
      have i6 : ((A : Int) + k).toNat = A + k := by omega
      have HMz := Lib.hid hMz
      have HC := Lib.hid (hCr.grows hZ)
      clear hMz h3 hMr hCr hZ
      repeat still_step
      refine wpStill_nil ?_
      change wpList _ _ _ _ _ (World.drew wr)
      rw [← (HZ).out]
      go_wp2_with fail
      refine ⟨⟨k + 1, by omega, by simp, ?_, HC.out.setCell (Or.inl (by simp)) _ _⟩, by simp [intOf]; omega⟩
      rw [HP.out]
      exact HMz.out.upd ((Chg.refl _ _).setCell (Or.inl (by simp)) _ _) (HMz.out.bts.set1 i1 HX.out)
    · have : k = W := by omega
      subst this
      rw [List.take_of_length_le (by rw [HLen.out]; exact Nat.le_refl _)] at hMr
      go_wp2_with fail
      go_ret
      exact ⟨rfl, hMr, (Chg.of_grows HG.out).step hCr (fun k hk => Or.inl hk)⟩
end Go.Proofs.YtlchlklbjocliaaDoor

