/- What the functions of the package word, and of its reference, do with bytes: known, Load, Store. -/
import Derived.Test.YtlchlklbjocliaaDoorProg
import Derived.Test.YtlchlklbjocliaaDoorBase
import Derived.Test.YtlchlklbjocliaaDoorNum
import Derived.OpenShut
import Derived.Lib.Hide
namespace Go.Proofs.YtlchlklbjocliaaDoor
open Go Go.RowKit
set_option linter.unusedSimpArgs false
set_option linter.unusedVariables false
set_option maxRecDepth 100000
/-- The table of widths lies where the program's text lays it. -/
def Widths (w : World) : Prop := 1 < w.heap.size ∧ ∀ i, w.cell? ⟨1, i, none⟩ = #[Value.int .i64 1, .int .i64 0, .int .i64 4, .int .i64 8][i]?
theorem Widths.grows {w w' : World} (h : Widths w) (hg : Grows w w') : Widths w' := ⟨hg.lt h.1, fun i => by rw [hg.cell h.1]; exact h.2 i⟩
def knownB (n : Int) : Bool := n == 1 || n == 4 || n == 8
theorem knownB_cases {n : Int} (h : knownB n = true) : n = 1 ∨ n = 4 ∨ n = 8 := by simp [knownB] at h; omega
theorem knownB_false {n : Int} (h : knownB n = false) : n ≠ 1 ∧ n ≠ 4 ∧ n ≠ 8 := by simp [knownB] at h; omega
theorem known_any (n : Int) (w : World) (hT : Widths w) :
    Calls Tryd.prog 101 #[.int .i64 n] w fun r w' => r = .returned (.bool (knownB n)) ∧ Grows w w' := by
  obtain ⟨_, hc⟩ := hT
  have hc0 := hc 0
  have hc1 := hc 1
  have hc2 := hc 2
  have hc3 := hc 3
  simp at hc0 hc1 hc2 hc3
  clear hc
  have i0 : ∀ w, (Instr.index 181 (.agg #[.int .i64 1, .int .i64 0, .int .i64 4, .int .i64 8]) (.int .i64 0)).run Tryd.prog w = .ok (.int .i64 1) w := fun _ => by kernel_rfl
  have i1 : ∀ w, (Instr.index 181 (.agg #[.int .i64 1, .int .i64 0, .int .i64 4, .int .i64 8]) (.int .i64 1)).run Tryd.prog w = .ok (.int .i64 0) w := fun _ => by kernel_rfl
  have i2 : ∀ w, (Instr.index 181 (.agg #[.int .i64 1, .int .i64 0, .int .i64 4, .int .i64 8]) (.int .i64 2)).run Tryd.prog w = .ok (.int .i64 4) w := fun _ => by kernel_rfl
  have i3 : ∀ w, (Instr.index 181 (.agg #[.int .i64 1, .int .i64 0, .int .i64 4, .int .i64 8]) (.int .i64 3)).run Tryd.prog w = .ok (.int .i64 8) w := fun _ => by kernel_rfl
  cases hk : knownB n
  · obtain ⟨h1, h4, h8⟩ := knownB_false hk
    have e1 : ((1 : Int) == n) = false := by simp; omega
    have e4 : ((4 : Int) == n) = false := by simp; omega
    have e8 : ((8 : Int) == n) = false := by simp; omega
    by_cases h0 : n = 0
    · subst h0
      go_enter Tryd.func101, Tryd.ntmps101
      go_wp2_with fail
      go_rounds 5
      go_ret
      exact ⟨by simp, Grows.refl _⟩
    · have e0 : ((0 : Int) == n) = false := by simp; omega
      go_enter Tryd.func101, Tryd.ntmps101
      go_wp2_with fail
      go_rounds 5
      go_ret
      exact ⟨by simp, Grows.refl _⟩
  · rcases knownB_cases hk with rfl | rfl | rfl
    all_goals
      go_enter Tryd.func101, Tryd.ntmps101
      go_wp2_with fail
      go_rounds 5
      go_ret
      exact ⟨by simp, Grows.refl _⟩
/-- Bytes that stand from a place on. -/
def Bytes (w : World) (b o : Nat) (bs : List Nat) : Prop := (∀ x ∈ bs, x < 256) ∧ ∀ i, i < bs.length → w.cell? ⟨b, o + i, none⟩ = some (.int .u8 (bs.getD i 0 : Nat))
theorem getD_lt {bs : List Nat} (h : ∀ x ∈ bs, x < 256) (i : Nat) : bs.getD i 0 < 256 := by
  rcases Nat.lt_or_ge i bs.length with hi | hi
  · have : bs.getD i 0 = bs[i] := by simp [List.getD, hi]
    rw [this]; exact h _ (List.getElem_mem hi)
  · have : bs.getD i 0 = 0 := by simp [List.getD, List.getElem?_eq_none hi]
    rw [this]; decide
theorem take_succ_getD (bs : List Nat) {i : Nat} (h : i < bs.length) : bs.take (i + 1) = bs.take i ++ [bs.getD i 0] := by
  rw [List.take_succ_eq_append_getElem h]; congr 2; simp [List.getD, h]
theorem row_bytes {w : World} {b : Nat} {bs : List Nat} {t : TypeId} (h : Row w b ((bs.map fun x => Value.int .u8 (x : Nat)).toArray) t) (hb : ∀ x ∈ bs, x < 256) : Bytes w b 0 bs := by
  refine ⟨hb, fun i hi => ?_⟩
  rw [h.cell]; simp [List.getD, hi]
/-- What is loaded of bytes. -/
def loadN (bs : List Nat) : Nat := if bs.length = 4 then sx32 (leN bs) else leN bs
theorem load_no (a : Option Addr) (n c : Nat) (at_ width : Int) (w : World) (hT : Widths w) (hn : n ≤ 9223372036854775807)
    (h : knownB width = false ∨ at_ < 0 ∨ (n : Int) - width < at_) :
    Calls Tryd.prog 96 #[.slice a n c, .int .i64 at_, .int .i64 width] w fun r w' => r = .returned (.tuple #[.int .u64 0, .bool false]) ∧ Grows w w' := by
  cases hk : knownB width
  · go_enter Tryd.func96, Tryd.ntmps96
    go_wp2_with fail
    refine (known_any _ _ hT).mono ?_
    rintro _ w1 ⟨rfl, g1, rfl⟩
    rw [hk]
    go_wp2_with fail
    go_ret2
    exact ⟨by simp, Grows.of _ _⟩
  · have hw := knownB_cases hk
    have hw1 : 0 ≤ width := by omega
    have hw2 : width ≤ 8 := by omega
    by_cases h0 : at_ < 0
    · clear h hw
      go_enter Tryd.func96, Tryd.ntmps96
      go_wp2_with fail
      refine (known_any _ _ hT).mono ?_
      rintro _ w1 ⟨rfl, g1, rfl⟩
      rw [hk]
      go_wp2_with fail
      go_ret2
      exact ⟨by simp, Grows.of _ _⟩
    · have h2 : (n : Int) - width < at_ := by rcases h with h | h | h <;> simp_all
      clear h hw
      go_enter Tryd.func96, Tryd.ntmps96
      go_wp2_with fail
      refine (known_any _ _ hT).mono ?_
      rintro _ w1 ⟨rfl, g1, rfl⟩
      rw [hk]
      go_wp2_with fail
      go_ret2
      exact ⟨by simp, Grows.of _ _⟩
set_option maxHeartbeats 1000000 in
theorem load_yes (b o n c A W : Nat) (bs : List Nat) (w : World) (hT : Widths w) (hnc : n ≤ c) (hc : c ≤ 9223372036854775807) (hk : knownB W = true) (hA : A + W ≤ n)
    (hl : bs.length = W) (hB : Bytes w b (o + A) bs) (hbl : b < w.heap.size) :
    Calls Tryd.prog 96 #[.slice (some ⟨b, o, none⟩) n c, .int .i64 A, .int .i64 W] w fun r w' => r = .returned (.tuple #[.int .u64 (loadN bs : Nat), .bool true]) ∧ Grows w w' := by
  obtain ⟨h256, hcell⟩ := hB
  have hw : W = 1 ∨ W = 4 ∨ W = 8 := by have := knownB_cases hk; omega
  have hw1 : 1 ≤ W := by omega
  have hw2 : W ≤ 8 := by omega
  have HW := Lib.hid hw
  have HL := Lib.hid hl
  have HC := Lib.hid hcell
  have HX := Lib.hid h256
  clear hw hl hcell h256
  go_enter Tryd.func96, Tryd.ntmps96
  go_wp2_with fail
  refine (known_any _ _ hT).mono ?_
  rintro _ w1 ⟨rfl, g1, rfl⟩
  rw [hk]
  clear hk
  go_wp2_with fail
  go_loop [8, 33] (fun v i => ∃ k : Nat, k ≤ W ∧ i = .int .i64 k ∧ v = .int .u64 (leN (bs.take k) : Nat)) (fun _ i => W - (intOf i).toNat)
  case atStart => exact ⟨0, Nat.zero_le _, rfl, rfl⟩
  case round =>
    obtain ⟨k, hk, rfl, rfl⟩ := hrel
    by_cases hlt : k < W
    · have hcell : w.cell? ⟨b, o + A + k, none⟩ = some (.int .u8 (bs.getD k 0 : Nat)) := HC.out k (by rw [HL.out]; exact hlt)
      have hx := getD_lt HX.out k
      have hv : leN (bs.take k) < 256 ^ k := by
        have h1 := leN_lt (l := bs.take k) (fun x hx => HX.out x (List.mem_of_mem_take hx))
        have : (bs.take k).length = k := by rw [List.length_take, HL.out]; omega
        rwa [this] at h1
      have HS : Hid (leN (bs.take (k + 1)) = leN (bs.take k) + bs.getD k 0 * 256 ^ k) := by
        show _ = _
        rw [take_succ_getD _ (by rw [HL.out]; exact hlt), leN_snoc, List.length_take, HL.out, Nat.min_eq_left hk]
      generalize leN (bs.take k) = V at *
      generalize bs.getD k 0 = X at *
      have HO := Lib.hid (or_byte hv hx (k := k) (by omega))
      clear hv
      go_wp2_with fail
      exact ⟨⟨k + 1, by omega, by go_num, by rw [HO.out, HS.out]⟩, by simp [intOf]; omega⟩
    · have hkw : k = W := by omega
      subst hkw
      have HN : Hid (leN (bs.take k) = leN bs) := by show _ = _; rw [List.take_of_length_le (by rw [HL.out]; omega)]
      have HV : Hid (leN bs < 256 ^ k) := by
        have h1 := leN_lt (l := bs) HX.out
        rwa [HL.out] at h1
      go_wp2_with fail
      · have h4 : k = 4 := by
          have : ((k : Int) == 4) = true := by assumption
          have := eq_of_beq this
          omega
        subst h4
        go_ret2
        refine ⟨?_, Grows.of _ _⟩
        have hv := HV.out
        rw [pow256.2.1] at hv
        simp [HN.out, sx32_walk hv, loadN, HL.out]
      · have h4 : ¬ k = 4 := by
          have := ne_of_beq_false (show ((k : Int) == 4) = false by assumption)
          omega
        go_ret2
        refine ⟨?_, Grows.of _ _⟩
        simp [HN.out, loadN, HL.out, h4]
theorem store_no (v width : Int) (w : World) (hT : Widths w) (hk : knownB width = false) :
    Calls Tryd.prog 95 #[.int .u64 v, .int .i64 width] w fun r w' => r = .returned (.slice none 0 0) ∧ Grows w w' := by
  go_enter Tryd.func95, Tryd.ntmps95
  go_wp2_with fail
  refine (known_any _ _ hT).mono ?_
  rintro _ w1 ⟨rfl, g1, rfl⟩
  rw [hk]
  go_wp2_with fail
  go_ret
  exact ⟨rfl, Grows.of _ _⟩
/-- A new slice of bytes. -/
def NewBytes (w : World) (bs : List Nat) (r : Ending) (w' : World) : Prop :=
  ∃ b, r = .returned (.slice (some ⟨b, 0, none⟩) bs.length bs.length) ∧ Grows w w' ∧ w.heap.size ≤ b ∧ Row w' b ((bs.map fun x => Value.int .u8 (x : Nat)).toArray) 5
set_option maxHeartbeats 2000000 in
theorem store_1 (V : Nat) (w : World) (hT : Widths w) :
    Calls Tryd.prog 95 #[.int .u64 V, .int .i64 1] w (NewBytes w (leB V 1)) := by
  have hmk : ∀ w, (Instr.makeSlice 70 (.int .i64 1) (.int .i64 1)).run Tryd.prog w = .ok (.slice (some ⟨w.heap.size, 0, none⟩) 1 1) (w.alloc (.cells #[.int .u8 0] 5)) := fun _ => by kernel_rfl
  go_enter Tryd.func95, Tryd.ntmps95
  go_wp2_with fail
  refine (known_any _ _ hT).mono ?_
  rintro _ w1 ⟨rfl, g1, rfl⟩
  rw [show knownB 1 = true from rfl]
  go_wp2_with fail
  go_rounds 2
  go_ret
  refine ⟨w.heap.size + g1.size, rfl, (Grows.of _ _).alloc _, by omega, ?_⟩
  have h := Row.new_at (w.grow g1) #[Value.int .u8 ((V : Int) % 256)] 5 (b := w.heap.size + g1.size) (by simp)
  simpa [leB, Nat.div_div_eq_div_mul] using h
set_option maxHeartbeats 2000000 in
theorem store_4 (V : Nat) (w : World) (hT : Widths w) :
    Calls Tryd.prog 95 #[.int .u64 V, .int .i64 4] w (NewBytes w (leB V 4)) := by
  have hmk : ∀ w, (Instr.makeSlice 70 (.int .i64 4) (.int .i64 4)).run Tryd.prog w = .ok (.slice (some ⟨w.heap.size, 0, none⟩) 4 4) (w.alloc (.cells #[.int .u8 0, .int .u8 0, .int .u8 0, .int .u8 0] 5)) := fun _ => by kernel_rfl
  go_enter Tryd.func95, Tryd.ntmps95
  go_wp2_with fail
  refine (known_any _ _ hT).mono ?_
  rintro _ w1 ⟨rfl, g1, rfl⟩
  rw [show knownB 4 = true from rfl]
  go_wp2_with fail
  go_rounds 5
  go_ret
  refine ⟨w.heap.size + g1.size, rfl, (Grows.of _ _).alloc _, by omega, ?_⟩
  have h := Row.new_at (w.grow g1) #[Value.int .u8 ((V : Int) % 256), Value.int .u8 ((V : Int) / 256 % 256), Value.int .u8 ((V : Int) / 65536 % 256), Value.int .u8 ((V : Int) / 16777216 % 256)] 5 (b := w.heap.size + g1.size) (by simp)
  simpa [leB, Nat.div_div_eq_div_mul] using h
set_option maxHeartbeats 2000000 in
theorem store_8 (V : Nat) (w : World) (hT : Widths w) :
    Calls Tryd.prog 95 #[.int .u64 V, .int .i64 8] w (NewBytes w (leB V 8)) := by
  have hmk : ∀ w, (Instr.makeSlice 70 (.int .i64 8) (.int .i64 8)).run Tryd.prog w = .ok (.slice (some ⟨w.heap.size, 0, none⟩) 8 8) (w.alloc (.cells #[.int .u8 0, .int .u8 0, .int .u8 0, .int .u8 0, .int .u8 0, .int .u8 0, .int .u8 0, .int .u8 0] 5)) := fun _ => by kernel_rfl
  go_enter Tryd.func95, Tryd.ntmps95
  go_wp2_with fail
  refine (known_any _ _ hT).mono ?_
  rintro _ w1 ⟨rfl, g1, rfl⟩
  rw [show knownB 8 = true from rfl]
  go_wp2_with fail
  go_rounds 9
  go_ret
  refine ⟨w.heap.size + g1.size, rfl, (Grows.of _ _).alloc _, by omega, ?_⟩
  have h := Row.new_at (w.grow g1) #[Value.int .u8 ((V : Int) % 256), Value.int .u8 ((V : Int) / 256 % 256), Value.int .u8 ((V : Int) / 65536 % 256), Value.int .u8 ((V : Int) / 16777216 % 256), Value.int .u8 ((V : Int) / 4294967296 % 256), Value.int .u8 ((V : Int) / 1099511627776 % 256), Value.int .u8 ((V : Int) / 281474976710656 % 256), Value.int .u8 ((V : Int) / 72057594037927936 % 256)] 5 (b := w.heap.size + g1.size) (by simp)
  simpa [leB, Nat.div_div_eq_div_mul] using h
theorem store_yes (V W : Nat) (w : World) (hT : Widths w) (hk : knownB W = true) :
    Calls Tryd.prog 95 #[.int .u64 V, .int .i64 W] w (NewBytes w (leB V W)) := by
  have hw : W = 1 ∨ W = 4 ∨ W = 8 := by have := knownB_cases hk; omega
  rcases hw with rfl | rfl | rfl
  · exact store_1 V w hT
  · exact store_4 V w hT
  · exact store_8 V w hT
theorem rload_no (a : Option Addr) (n c : Nat) (at_ width : Int) (w : World) (hn : n ≤ 9223372036854775807)
    (h : knownB width = false ∨ at_ < 0 ∨ (n : Int) - width < at_) :
    Calls Tryd.prog 124 #[.slice a n c, .int .i64 at_, .int .i64 width] w fun r w' => r = .returned (.tuple #[.int .u64 0, .bool false]) ∧ Grows w w' := by
  cases hk : knownB width
  · obtain ⟨h1, h4, h8⟩ := knownB_false hk
    have e1 : (width != 1) = true := by simp [h1]
    have e4 : (width != 4) = true := by simp [h4]
    have e8 : (width != 8) = true := by simp [h8]
    clear h
    go_enter Tryd.func124, Tryd.ntmps124
    go_wp2_with fail
    go_ret2
    exact ⟨by simp, Grows.refl _⟩
  · by_cases h0 : at_ < 0
    · rcases knownB_cases hk with rfl | rfl | rfl
      all_goals
        clear h hk
        go_enter Tryd.func124, Tryd.ntmps124
        go_wp2_with fail
        go_ret2
        exact ⟨by simp, Grows.refl _⟩
    · have h2 : (n : Int) - width < at_ := by rcases h with h | h | h <;> simp_all
      rcases knownB_cases hk with rfl | rfl | rfl
      all_goals
        clear h hk
        go_enter Tryd.func124, Tryd.ntmps124
        go_wp2_with fail
        go_ret2
        exact ⟨by simp, Grows.refl _⟩
theorem drop_getD (bs : List Nat) {i : Nat} (h : i < bs.length) : leN (bs.drop i) = bs.getD i 0 + 256 * leN (bs.drop (i + 1)) := by
  rw [List.drop_eq_getElem_cons h]; simp [leN, List.getD, h]
set_option maxHeartbeats 1000000 in
theorem rload_yes (b o n c A W : Nat) (bs : List Nat) (w : World) (hnc : n ≤ c) (hc : c ≤ 9223372036854775807) (hk : knownB W = true) (hA : A + W ≤ n)
    (hl : bs.length = W) (hB : Bytes w b (o + A) bs) :
    Calls Tryd.prog 124 #[.slice (some ⟨b, o, none⟩) n c, .int .i64 A, .int .i64 W] w fun r w' => r = .returned (.tuple #[.int .u64 (loadN bs : Nat), .bool true]) ∧ Grows w w' := by
  obtain ⟨h256, hcell⟩ := hB
  have hw : W = 1 ∨ W = 4 ∨ W = 8 := by have := knownB_cases hk; omega
  have hw1 : 1 ≤ W := by omega
  have hw2 : W ≤ 8 := by omega
  have HL := Lib.hid hl
  have HC := Lib.hid hcell
  have HX := Lib.hid h256
  clear hl hcell h256 hk
  have h1 : ¬ (A : Int) < 0 := by omega
  have h2 : ¬ (n : Int) - W < A := by omega
  rcases hw with rfl | rfl | rfl
  · go_enter Tryd.func124, Tryd.ntmps124
    go_wp2_with fail
    go_loop [8, 9] (fun v i => ∃ j : Nat, j ≤ bs.length ∧ i = .int .i64 ((j : Int) - 1) ∧ v = .int .u64 (leN (bs.drop j) : Nat)) (fun _ i => (intOf i + 1).toNat)
    case atStart => exact ⟨1, by rw [HL.out]; exact Nat.le_refl _, rfl, by rw [List.drop_of_length_le (by rw [HL.out]; exact Nat.le_refl _)]; rfl⟩
    case round =>
      obtain ⟨j, hj, rfl, rfl⟩ := hrel
      rw [HL.out] at hj
      by_cases h0 : j = 0
      · subst h0
        rw [show ((0 : Nat) : Int) - 1 = -1 from rfl]
        have HV : Hid (leN bs < 256 ^ 1) := by
          have h1 := leN_lt (l := bs) HX.out
          rwa [HL.out] at h1
        have hv := HV.out
        simp at hv
        generalize hV : leN (bs.drop 0) = V
        have HQ : Hid (leN bs = V) := hV
        rw [HQ.out] at hv
        clear hV HV
        have HR : Hid ((loadN bs : Nat) = if 1 = 4 then sx32 V else V) := by show _ = _; unfold loadN; rw [HL.out, HQ.out]
        have HVV := Lib.hid hv
        clear hv
        go_wp2_with fail
        go_ret2
        refine ⟨?_, Grows.refl _⟩
        rw [HR.out]
        simp
      · obtain ⟨i, rfl⟩ : ∃ i, j = i + 1 := ⟨j - 1, by omega⟩
        have hcell : w.cell? ⟨b, o + (A + i), none⟩ = some (.int .u8 (bs.getD i 0 : Nat)) := by rw [← Nat.add_assoc]; exact HC.out i (by rw [HL.out]; omega)
        have hx := getD_lt HX.out i
        have hv : leN (bs.drop (i + 1)) < 256 ^ 7 := by
          have h1 := leN_lt (l := bs.drop (i + 1)) (fun x hx => HX.out x (List.mem_of_mem_drop hx))
          exact Nat.lt_of_lt_of_le h1 (Nat.pow_le_pow_right (by decide) (by rw [List.length_drop, HL.out]; omega))
        have h7 : (256 : Nat) ^ 7 = 72057594037927936 := by decide
        rw [h7] at hv
        have HS : Hid (leN (bs.drop i) = bs.getD i 0 + 256 * leN (bs.drop (i + 1))) := drop_getD bs (by rw [HL.out]; omega)
        generalize leN (bs.drop (i + 1)) = V at *
        generalize bs.getD i 0 = X at *
        clear h7
        have ei : ((i + 1 : Nat) : Int) - 1 = (i : Int) := by omega
        rw [ei]
        clear ei
        go_wp2_with fail
        exact ⟨⟨i, by rw [HL.out]; omega, rfl, by rw [HS.out]; congr 1; omega⟩, by simp [intOf]⟩
  · go_enter Tryd.func124, Tryd.ntmps124
    go_wp2_with fail
    go_loop [8, 9] (fun v i => ∃ j : Nat, j ≤ bs.length ∧ i = .int .i64 ((j : Int) - 1) ∧ v = .int .u64 (leN (bs.drop j) : Nat)) (fun _ i => (intOf i + 1).toNat)
    case atStart => exact ⟨4, by rw [HL.out]; exact Nat.le_refl _, rfl, by rw [List.drop_of_length_le (by rw [HL.out]; exact Nat.le_refl _)]; rfl⟩
    case round =>
      obtain ⟨j, hj, rfl, rfl⟩ := hrel
      rw [HL.out] at hj
      by_cases h0 : j = 0
      · subst h0
        rw [show ((0 : Nat) : Int) - 1 = -1 from rfl]
        have HV : Hid (leN bs < 256 ^ 4) := by
          have h1 := leN_lt (l := bs) HX.out
          rwa [HL.out] at h1
        have hv := HV.out
        simp at hv
        generalize hV : leN (bs.drop 0) = V
        have HQ : Hid (leN bs = V) := hV
        rw [HQ.out] at hv
        clear hV HV
        have HR : Hid ((loadN bs : Nat) = if 4 = 4 then sx32 V else V) := by show _ = _; unfold loadN; rw [HL.out, HQ.out]
        have HVV := Lib.hid hv
        clear hv
        cases hb : decide ((2147483648 : Int) ≤ V)
        · have HS : Hid (sx32 V = V) := if_pos (by have := of_decide_eq_false hb; omega)
          go_wp2_with fail
          go_ret2
          refine ⟨?_, Grows.refl _⟩
          rw [HR.out, HS.out]
          simp only [ite_self]
          rfl
        · have HS : Hid (IntKind.u64.wrap ((V : Int) + 18446744069414584320) = (sx32 V : Nat)) := by
            have h1 := of_decide_eq_true hb
            have h2 := HVV.out
            show _ = _
            rw [wrap_u64_small (by omega) (by omega)]
            unfold sx32
            rw [if_neg (by omega)]
            omega
          go_wp2_with fail
          go_ret2
          refine ⟨?_, Grows.refl _⟩
          rw [HR.out, if_pos trivial, ← HS.out]
          rfl
      · obtain ⟨i, rfl⟩ : ∃ i, j = i + 1 := ⟨j - 1, by omega⟩
        have hcell : w.cell? ⟨b, o + (A + i), none⟩ = some (.int .u8 (bs.getD i 0 : Nat)) := by rw [← Nat.add_assoc]; exact HC.out i (by rw [HL.out]; omega)
        have hx := getD_lt HX.out i
        have hv : leN (bs.drop (i + 1)) < 256 ^ 7 := by
          have h1 := leN_lt (l := bs.drop (i + 1)) (fun x hx => HX.out x (List.mem_of_mem_drop hx))
          exact Nat.lt_of_lt_of_le h1 (Nat.pow_le_pow_right (by decide) (by rw [List.length_drop, HL.out]; omega))
        have h7 : (256 : Nat) ^ 7 = 72057594037927936 := by decide
        rw [h7] at hv
        have HS : Hid (leN (bs.drop i) = bs.getD i 0 + 256 * leN (bs.drop (i + 1))) := drop_getD bs (by rw [HL.out]; omega)
        generalize leN (bs.drop (i + 1)) = V at *
        generalize bs.getD i 0 = X at *
        clear h7
        have ei : ((i + 1 : Nat) : Int) - 1 = (i : Int) := by omega
        rw [ei]
        clear ei
        go_wp2_with fail
        exact ⟨⟨i, by rw [HL.out]; omega, rfl, by rw [HS.out]; congr 1; omega⟩, by simp [intOf]⟩
  · go_enter Tryd.func124, Tryd.ntmps124
    go_wp2_with fail
    go_loop [8, 9] (fun v i => ∃ j : Nat, j ≤ bs.length ∧ i = .int .i64 ((j : Int) - 1) ∧ v = .int .u64 (leN (bs.drop j) : Nat)) (fun _ i => (intOf i + 1).toNat)
    case atStart => exact ⟨8, by rw [HL.out]; exact Nat.le_refl _, rfl, by rw [List.drop_of_length_le (by rw [HL.out]; exact Nat.le_refl _)]; rfl⟩
    case round =>
      obtain ⟨j, hj, rfl, rfl⟩ := hrel
      rw [HL.out] at hj
      by_cases h0 : j = 0
      · subst h0
        rw [show ((0 : Nat) : Int) - 1 = -1 from rfl]
        have HV : Hid (leN bs < 256 ^ 8) := by
          have h1 := leN_lt (l := bs) HX.out
          rwa [HL.out] at h1
        have hv := HV.out
        simp at hv
        generalize hV : leN (bs.drop 0) = V
        have HQ : Hid (leN bs = V) := hV
        rw [HQ.out] at hv
        clear hV HV
        have HR : Hid ((loadN bs : Nat) = if 8 = 4 then sx32 V else V) := by show _ = _; unfold loadN; rw [HL.out, HQ.out]
        have HVV := Lib.hid hv
        clear hv
        go_wp2_with fail
        go_ret2
        refine ⟨?_, Grows.refl _⟩
        rw [HR.out]
        simp
      · obtain ⟨i, rfl⟩ : ∃ i, j = i + 1 := ⟨j - 1, by omega⟩
        have hcell : w.cell? ⟨b, o + (A + i), none⟩ = some (.int .u8 (bs.getD i 0 : Nat)) := by rw [← Nat.add_assoc]; exact HC.out i (by rw [HL.out]; omega)
        have hx := getD_lt HX.out i
        have hv : leN (bs.drop (i + 1)) < 256 ^ 7 := by
          have h1 := leN_lt (l := bs.drop (i + 1)) (fun x hx => HX.out x (List.mem_of_mem_drop hx))
          exact Nat.lt_of_lt_of_le h1 (Nat.pow_le_pow_right (by decide) (by rw [List.length_drop, HL.out]; omega))
        have h7 : (256 : Nat) ^ 7 = 72057594037927936 := by decide
        rw [h7] at hv
        have HS : Hid (leN (bs.drop i) = bs.getD i 0 + 256 * leN (bs.drop (i + 1))) := drop_getD bs (by rw [HL.out]; omega)
        generalize leN (bs.drop (i + 1)) = V at *
        generalize bs.getD i 0 = X at *
        clear h7
        have ei : ((i + 1 : Nat) : Int) - 1 = (i : Int) := by omega
        rw [ei]
        clear ei
        go_wp2_with fail
        exact ⟨⟨i, by rw [HL.out]; omega, rfl, by rw [HS.out]; congr 1; omega⟩, by simp [intOf]⟩
theorem rstore_no (v width : Int) (w : World) (hk : knownB width = false) :
    Calls Tryd.prog 105 #[.int .u64 v, .int .i64 width] w fun r w' => r = .returned (.slice none 0 0) ∧ Grows w w' := by
  obtain ⟨h1, h4, h8⟩ := knownB_false hk
  have e1 : (width != 1) = true := by simp [h1]
  have e4 : (width != 4) = true := by simp [h4]
  have e8 : (width != 8) = true := by simp [h8]
  go_enter Tryd.func105, Tryd.ntmps105
  go_wp2_with fail
  go_ret
  exact ⟨rfl, Grows.refl _⟩
/-- A new slice of bytes, of whatever capacity. -/
def SomeBytes (w : World) (bs : List Nat) (r : Ending) (w' : World) : Prop :=
  ∃ b c, r = .returned (.slice (some ⟨b, 0, none⟩) bs.length c) ∧ bs.length ≤ c ∧ (c : Int) ≤ 9223372036854775807 ∧ Grows w w' ∧ w.heap.size ≤ b ∧ b < w'.heap.size ∧ Bytes w' b 0 bs
theorem someBytes_of_own {w wr : World} {e : TypeId} {v : Value} {bs : List Nat} (h : wr.ownsRow w.heap.size e 1 v bs.length (bs.map fun x => Value.int .u8 (x : Nat))) (h0 : 0 < bs.length)
    (hg : Grows w wr) (hb : ∀ x ∈ bs, x < 256) : SomeBytes w bs (.returned v) wr := by
  rcases h.2 with ⟨_, hz⟩ | ⟨g, cap, cur, rfl, hge, hh, hn, hm, hs, ht⟩
  · omega
  · refine ⟨g, cap, rfl, hn, by unfold maxLen at hm; omega, hg, hge, ?_, hb, fun i hi => ?_⟩
    · rcases Nat.lt_or_ge g wr.heap.size with h' | h'
      · exact h'
      · rw [Array.getElem?_eq_none h'] at hh; cases hh
    · have h1 : (cur.toList.take (bs.length * 1))[i]? = some (.int .u8 (bs.getD i 0 : Nat)) := by
        rw [ht, List.getElem?_map]; simp [List.getD, hi]
      rw [List.getElem?_take_of_lt (by omega)] at h1
      simp [World.cell?, hh]
      simpa using h1
theorem info_u8 : (Tryd.prog.info? 5).map (fun i => (i.zero, i.size, i.bytes)) = some (some (.int .u8 0), 1, 1) := by kernel_rfl
set_option maxHeartbeats 2000000 in
set_option maxRecDepth 100000 in
theorem rstore_1 (V : Nat) (w : World) :
    Calls Tryd.prog 105 #[.int .u64 V, .int .i64 1] w (SomeBytes w (leB V 1)) := by
  obtain ⟨i0, hi, hz0, hz1, hz2⟩ := info_parts info_u8
  go_enter Tryd.func105, Tryd.ntmps105
  go_wp2_with fail
  go_loopw [5, 6] (fun v i wr => ∃ k : Nat, k ≤ 1 ∧ i = .int .i64 k ∧ wr.ownsRow w.heap.size 5 1 v k ((leB V k).map fun x => Value.int .u8 (x : Nat)) ∧ Grows w wr) (fun _ i _ => (1 - intOf i).toNat)
  case atStart => exact ⟨0, by omega, rfl, ⟨rfl, Or.inl ⟨rfl, rfl⟩⟩, Grows.refl _⟩
  case round =>
    obtain ⟨k, hk, rfl, hown, hg⟩ := hrel
    by_cases hlt : k < 1
    · have HN : Hid ((leB V (k + 1)).map (fun x => Value.int .u8 (x : Nat)) = ((leB V k).map fun x => Value.int .u8 (x : Nat)) ++ [Value.int .u8 (V / 256 ^ k % 256 : Nat)]) := by
        show _ = _; rw [leB_snoc, List.map_append]; rfl
      have hsz := hg.size
      go_wp2_with (at_builtin; refine wpList_append_own _ rfl _ _ 70 rfl w.heap.size 5 i0 (.int .u8 0) 1 1 Tryd.underlying70 hi hz0 hz1 hz2 rfl (by decide) _ _ _ rfl (hown.alloc _) ⟨wr.heap.size, 0, none⟩ 1 1 [.int .u8 (V / 2 ^ (8 * k) % 256)] rfl rfl ?c1 ?c2 ?c3 ?c4 ?c5 ?_)
      case c1 => exact cell_one_new _ _ _
      case c2 => intro u hu; simp at hu; subst hu; rfl
      case c3 => unfold maxLen; omega
      case c4 => omega
      case c5 => simp; omega
      intro v' w1 hown1 hgrow _
      have hg1 : Grows w w1 := (hg.alloc _).grown hgrow (ownsRow_block hown)
      have HE : Hid ((V : Int) / 2 ^ (8 * k) % 256 = ((V / 256 ^ k % 256 : Nat) : Int)) := by
        show _ = _
        rw [Int.natCast_emod, Int.natCast_ediv, show (256 : Nat) ^ k = 2 ^ (8 * k) from (Nat.pow_mul 2 8 k).symm ▸ rfl, two_pow_cast]; rfl
      rw [HE.out, ← HN.out] at hown1
      clear hown hgrow
      go_wp2_with fail
      exact ⟨⟨k + 1, by omega, by go_num, hown1, hg1⟩, by simp [intOf]; omega⟩
    · have : k = 1 := by omega
      subst this
      go_wp2_with fail
      go_ret
      exact someBytes_of_own (bs := leB V 1) (by rw [leB_length]; exact hown) (by rw [leB_length]; decide) hg (leB_lt _ _)
set_option maxHeartbeats 2000000 in
set_option maxRecDepth 100000 in
theorem rstore_4 (V : Nat) (w : World) :
    Calls Tryd.prog 105 #[.int .u64 V, .int .i64 4] w (SomeBytes w (leB V 4)) := by
  obtain ⟨i0, hi, hz0, hz1, hz2⟩ := info_parts info_u8
  go_enter Tryd.func105, Tryd.ntmps105
  go_wp2_with fail
  go_loopw [5, 6] (fun v i wr => ∃ k : Nat, k ≤ 4 ∧ i = .int .i64 k ∧ wr.ownsRow w.heap.size 5 1 v k ((leB V k).map fun x => Value.int .u8 (x : Nat)) ∧ Grows w wr) (fun _ i _ => (4 - intOf i).toNat)
  case atStart => exact ⟨0, by omega, rfl, ⟨rfl, Or.inl ⟨rfl, rfl⟩⟩, Grows.refl _⟩
  case round =>
    obtain ⟨k, hk, rfl, hown, hg⟩ := hrel
    by_cases hlt : k < 4
    · have HN : Hid ((leB V (k + 1)).map (fun x => Value.int .u8 (x : Nat)) = ((leB V k).map fun x => Value.int .u8 (x : Nat)) ++ [Value.int .u8 (V / 256 ^ k % 256 : Nat)]) := by
        show _ = _; rw [leB_snoc, List.map_append]; rfl
      have hsz := hg.size
      go_wp2_with (at_builtin; refine wpList_append_own _ rfl _ _ 70 rfl w.heap.size 5 i0 (.int .u8 0) 1 1 Tryd.underlying70 hi hz0 hz1 hz2 rfl (by decide) _ _ _ rfl (hown.alloc _) ⟨wr.heap.size, 0, none⟩ 1 1 [.int .u8 (V / 2 ^ (8 * k) % 256)] rfl rfl ?c1 ?c2 ?c3 ?c4 ?c5 ?_)
      case c1 => exact cell_one_new _ _ _
      case c2 => intro u hu; simp at hu; subst hu; rfl
      case c3 => unfold maxLen; omega
      case c4 => omega
      case c5 => simp; omega
      intro v' w1 hown1 hgrow _
      have hg1 : Grows w w1 := (hg.alloc _).grown hgrow (ownsRow_block hown)
      have HE : Hid ((V : Int) / 2 ^ (8 * k) % 256 = ((V / 256 ^ k % 256 : Nat) : Int)) := by
        show _ = _
        rw [Int.natCast_emod, Int.natCast_ediv, show (256 : Nat) ^ k = 2 ^ (8 * k) from (Nat.pow_mul 2 8 k).symm ▸ rfl, two_pow_cast]; rfl
      rw [HE.out, ← HN.out] at hown1
      clear hown hgrow
      go_wp2_with fail
      exact ⟨⟨k + 1, by omega, by go_num, hown1, hg1⟩, by simp [intOf]; omega⟩
    · have : k = 4 := by omega
      subst this
      go_wp2_with fail
      go_ret
      exact someBytes_of_own (bs := leB V 4) (by rw [leB_length]; exact hown) (by rw [leB_length]; decide) hg (leB_lt _ _)
set_option maxHeartbeats 2000000 in
set_option maxRecDepth 100000 in
theorem rstore_8 (V : Nat) (w : World) :
    Calls Tryd.prog 105 #[.int .u64 V, .int .i64 8] w (SomeBytes w (leB V 8)) := by
  obtain ⟨i0, hi, hz0, hz1, hz2⟩ := info_parts info_u8
  go_enter Tryd.func105, Tryd.ntmps105
  go_wp2_with fail
  go_loopw [5, 6] (fun v i wr => ∃ k : Nat, k ≤ 8 ∧ i = .int .i64 k ∧ wr.ownsRow w.heap.size 5 1 v k ((leB V k).map fun x => Value.int .u8 (x : Nat)) ∧ Grows w wr) (fun _ i _ => (8 - intOf i).toNat)
  case atStart => exact ⟨0, by omega, rfl, ⟨rfl, Or.inl ⟨rfl, rfl⟩⟩, Grows.refl _⟩
  case round =>
    obtain ⟨k, hk, rfl, hown, hg⟩ := hrel
    by_cases hlt : k < 8
    · have HN : Hid ((leB V (k + 1)).map (fun x => Value.int .u8 (x : Nat)) = ((leB V k).map fun x => Value.int .u8 (x : Nat)) ++ [Value.int .u8 (V / 256 ^ k % 256 : Nat)]) := by
        show _ = _; rw [leB_snoc, List.map_append]; rfl
      have hsz := hg.size
      go_wp2_with (at_builtin; refine wpList_append_own _ rfl _ _ 70 rfl w.heap.size 5 i0 (.int .u8 0) 1 1 Tryd.underlying70 hi hz0 hz1 hz2 rfl (by decide) _ _ _ rfl (hown.alloc _) ⟨wr.heap.size, 0, none⟩ 1 1 [.int .u8 (V / 2 ^ (8 * k) % 256)] rfl rfl ?c1 ?c2 ?c3 ?c4 ?c5 ?_)
      case c1 => exact cell_one_new _ _ _
      case c2 => intro u hu; simp at hu; subst hu; rfl
      case c3 => unfold maxLen; omega
      case c4 => omega
      case c5 => simp; omega
      intro v' w1 hown1 hgrow _
      have hg1 : Grows w w1 := (hg.alloc _).grown hgrow (ownsRow_block hown)
      have HE : Hid ((V : Int) / 2 ^ (8 * k) % 256 = ((V / 256 ^ k % 256 : Nat) : Int)) := by
        show _ = _
        rw [Int.natCast_emod, Int.natCast_ediv, show (256 : Nat) ^ k = 2 ^ (8 * k) from (Nat.pow_mul 2 8 k).symm ▸ rfl, two_pow_cast]; rfl
      rw [HE.out, ← HN.out] at hown1
      clear hown hgrow
      go_wp2_with fail
      exact ⟨⟨k + 1, by omega, by go_num, hown1, hg1⟩, by simp [intOf]; omega⟩
    · have : k = 8 := by omega
      subst this
      go_wp2_with fail
      go_ret
      exact someBytes_of_own (bs := leB V 8) (by rw [leB_length]; exact hown) (by rw [leB_length]; decide) hg (leB_lt _ _)
theorem rstore_yes (V W : Nat) (w : World) (hk : knownB W = true) :
    Calls Tryd.prog 105 #[.int .u64 V, .int .i64 W] w (SomeBytes w (leB V W)) := by
  have hw : W = 1 ∨ W = 4 ∨ W = 8 := by have := knownB_cases hk; omega
  rcases hw with rfl | rfl | rfl
  · exact rstore_1 V w
  · exact rstore_4 V w
  · exact rstore_8 V w
end Go.Proofs.YtlchlklbjocliaaDoor
