/- What one act of MemPlays does to both memories. -/
import Derived.Test.YtoehigcojgeioaaDoorRMem
import Derived.Deep.RegionHeld3
namespace Go.Proofs.YtoehigcojgeioaaDoor
open Go Go.RowKit
set_option linter.unusedSimpArgs false
set_option linter.unusedVariables false
/-- Both memories bear the same bytes. -/
structure Both (w : World) (p q p' q' n : Nat) (B : Nat → Nat) : Prop where
  m : Mem w p q n B
  r : RMem w p' q' n B
  ne : q ≠ p' ∧ q ≠ q' ∧ p ≠ q'
def actA (kind N : Int) (A V : Nat) (bs : Value) : Array Value := #[.int .i64 kind, .int .u64 A, .int .i64 N, .int .u64 V, bs]
theorem Both.grows {w w' : World} {p q p' q' n : Nat} {B : Nat → Nat} (h : Both w p q p' q' n B) (hg : Grows w w') : Both w' p q p' q' n B := ⟨h.m.grows hg, h.r.grows hg, h.ne⟩
/-- The error of a store, and what it leaves. -/
def stB (n : Nat) (B : Nat → Nat) (A : Nat) (N : Int) (V : Nat) : Nat → Nat := if numE n A N = 0 then putB B A (leB V N.toNat) else B
theorem Store_all {p q n : Nat} {B : Nat → Nat} {w : World} (hT : Widths w) (h : Mem w p q n B) (A V : Nat) (N : Int) (hA : A < 18446744073709551616) :
    Calls Tryd.prog 11 #[.pointer (some ⟨p, 0, none⟩), .int .u64 A, .int .i64 N, .int .u64 V] w fun r w' => r = .returned (.int .i64 (numE n A N)) ∧ Mem w' p q n (stB n B A N V) ∧ Chg [q] w w' := by
  by_cases he : numE n A N = 0
  · obtain ⟨W, rfl, hk, ha, hn, _, _⟩ := numE_ok he
    refine (Store_ok hT h A W V hk ha hn).mono ?_
    rintro _ w1 ⟨rfl, hM, hC⟩
    exact ⟨by rw [he], by unfold stB; rw [if_pos he]; exact hM, hC⟩
  · refine (Store_bad h A N V hA he).mono ?_
    rintro _ w1 ⟨rfl, hg⟩
    exact ⟨rfl, by unfold stB; rw [if_neg he]; exact h.grows hg, Chg.of_grows hg⟩
theorem rStore_all {p q n : Nat} {B : Nat → Nat} {w : World} (h : RMem w p q n B) (A V : Nat) (N : Int) (hA : A < 18446744073709551616) :
    Calls Tryd.prog 28 #[.pointer (some ⟨p, 0, none⟩), .int .u64 A, .int .i64 N, .int .u64 V] w fun r w' => r = .returned (.int .i64 (numE n A N)) ∧ RMem w' p q n (stB n B A N V) ∧ Chg [q] w w' := by
  by_cases he : numE n A N = 0
  · obtain ⟨W, rfl, hk, ha, hn, _, _⟩ := numE_ok he
    refine (rStore_ok h A W V hk ha hn).mono ?_
    rintro _ w1 ⟨rfl, hM, hC⟩
    exact ⟨by rw [he], by unfold stB; rw [if_pos he]; exact hM, hC⟩
  · refine (rStore_bad h A N V hA he).mono ?_
    rintro _ w1 ⟨rfl, hg⟩
    exact ⟨rfl, by unfold stB; rw [if_neg he]; exact h.grows hg, Chg.of_grows hg⟩
theorem act_cells {w : World} {b A V : Nat} {kind N : Int} {bs : Value} {t : TypeId} (h : Row w b (actA kind N A V bs) t) :
    w.cell? ⟨b, 1, none⟩ = some (.int .u64 A) ∧ w.cell? ⟨b, 2, none⟩ = some (.int .i64 N) ∧ w.cell? ⟨b, 3, none⟩ = some (.int .u64 V) ∧ w.cell? ⟨b, 4, none⟩ = some bs ∧ w.cell? ⟨b, 0, none⟩ = some (.int .i64 kind) :=
  ⟨h.cell 1, h.cell 2, h.cell 3, h.cell 4, h.cell 0⟩
def clB (n : Nat) (B : Nat → Nat) (f : Int) : Nat → Nat := if f < 0 ∨ (n / 256 : Nat) ≤ f then B else putB B (f.toNat * 256) (List.replicate 256 0)
def clE (n : Nat) (f : Int) : Int := if f < 0 ∨ (n / 256 : Nat) ≤ f then 12 else 0
theorem Clear_all {p q n : Nat} {B : Nat → Nat} {w : World} (h : Mem w p q n B) (f : Int) :
    Calls Tryd.prog 14 #[.pointer (some ⟨p, 0, none⟩), .int .i64 f] w fun r w' => r = .returned (.int .i64 (clE n f)) ∧ Mem w' p q n (clB n B f) ∧ Chg [q] w w' := by
  unfold clE clB
  by_cases hf : f < 0 ∨ (n / 256 : Nat) ≤ f
  · refine (Clear_bad h f hf).mono ?_
    rintro _ w1 ⟨rfl, hg⟩
    exact ⟨by rw [if_pos hf], by rw [if_pos hf]; exact h.grows hg, Chg.of_grows hg⟩
  · obtain ⟨F, rfl⟩ := Int.eq_ofNat_of_zero_le (show 0 ≤ f by omega)
    refine (Clear_ok h F (by omega)).mono ?_
    rintro _ w1 ⟨rfl, hM, hC⟩
    exact ⟨by rw [if_neg hf], by rw [if_neg hf]; exact hM, hC⟩
theorem rClear_all {p q n : Nat} {B : Nat → Nat} {w : World} (h : RMem w p q n B) (f : Int) :
    Calls Tryd.prog 31 #[.pointer (some ⟨p, 0, none⟩), .int .i64 f] w fun r w' => r = .returned (.int .i64 (clE n f)) ∧ RMem w' p q n (clB n B f) ∧ Chg [q] w w' := by
  unfold clE clB
  by_cases hf : f < 0 ∨ (n / 256 : Nat) ≤ f
  · refine (rClear_bad h f hf).mono ?_
    rintro _ w1 ⟨rfl, hg⟩
    exact ⟨by rw [if_pos hf], by rw [if_pos hf]; exact h.grows hg, Chg.of_grows hg⟩
  · obtain ⟨F, rfl⟩ := Int.eq_ofNat_of_zero_le (show 0 ≤ f by omega)
    refine (rClear_ok h F (by omega)).mono ?_
    rintro _ w1 ⟨rfl, hM, hC⟩
    exact ⟨by rw [if_neg hf], by rw [if_neg hf]; exact hM, hC⟩
theorem both_step {w w2 w3 : World} {p q p' q' n : Nat} {B C : Nat → Nat} (h : Both w p q p' q' n B) (hM : Mem w2 p q n C) (hC : Chg [q] w w2) (hR : RMem w3 p' q' n C) (hC' : Chg [q'] w2 w3) : Both w3 p q p' q' n C ∧ Chg [q, q'] w w3 :=
  ⟨⟨hM.chg hC' (by have := h.ne.2.2; simpa using this) (by have := h.ne.2.1; simpa using this), hR, h.ne⟩, (hC.weaken (by simp)).step hC' (by simp)⟩
set_option maxRecDepth 100000 in
set_option maxHeartbeats 1000000 in
theorem does_1 {p q p' q' n : Nat} {B : Nat → Nat} {w : World} (hT : Widths w) (h : Both w p q p' q' n B) (A V : Nat) (N : Int) (hA : A < 18446744073709551616) (bs : Value) :
    Calls Tryd.prog 19 #[.pointer (some ⟨p, 0, none⟩), .pointer (some ⟨p', 0, none⟩), .agg (actA 1 N A V bs)] w fun r w' => r = .returned (.bool true) ∧ (∃ C, Both w' p q p' q' n C) ∧ Chg [q, q'] w w' := by
  unfold actA
  go_enter Tryd.func19, Tryd.ntmps19
  go_wp2_with fail
  obtain ⟨ba, hba⟩ : ∃ ba, ba = w.heap.size := ⟨_, rfl⟩
  have hR : Row (w.alloc (Obj.cells #[Value.int .i64 1, .int .u64 A, .int .i64 N, .int .u64 V, bs] 49)) ba (actA 1 N A V bs) 49 := Row.new_at _ _ _ hba
  have hG := (Grows.refl w).alloc (Obj.cells #[Value.int .i64 1, .int .u64 A, .int .i64 N, .int .u64 V, bs] 49)
  have hne : ba ≠ q ∧ ba ≠ q' := by have := h.m.qlt; have := h.r.qlt; omega
  rw [← hba]
  clear hba
  generalize (w.alloc (Obj.cells #[Value.int .i64 1, .int .u64 A, .int .i64 N, .int .u64 V, bs] 49)) = W at *
  have HB := Lib.hid (h.grows hG)
  have HT := Lib.hid (hT.grows hG)
  have HR := Lib.hid hR
  have HN := Lib.hid hne
  have HG := Lib.hid hG
  clear h hT hR hne hG
  go_region_held3 (fun w' => w'.cell? ⟨ba, 1, none⟩ = some (.int .u64 A) ∧ w'.cell? ⟨ba, 2, none⟩ = some (.int .i64 N) ∧ w'.cell? ⟨ba, 3, none⟩ = some (.int .u64 V)) (first
    | exact ⟨(act_cells HR2.out).1, (act_cells HR2.out).2.1, (act_cells HR2.out).2.2.1⟩
    | exact ⟨(act_cells HR1.out).1, (act_cells HR1.out).2.1, (act_cells HR1.out).2.2.1⟩
    | exact ⟨(act_cells HR.out).1, (act_cells HR.out).2.1, (act_cells HR.out).2.2.1⟩)
    (first
    | (go_at_call 11; refine (Store_all (HT.out.grows ((Grows.refl _).drew)) (HB.out.grows ((Grows.refl _).drew)).m A V N hA).mono ?_; rintro _ w2 ⟨rfl, hM2, hC2⟩
       have HR1 := Lib.hid ((HR.out.grows ((Grows.refl _).drew)).chg hC2 (by simpa using HN.out.1))
       have HM2 := Lib.hid hM2
       have HC2 := Lib.hid hC2
       clear hM2 hC2)
    | (go_at_call 28; refine (rStore_all ((HB.out.grows ((Grows.refl _).drew)).r.chg HC2.out (by simp; have := HB.out.ne.1; omega) (by simp; have := HB.out.ne; omega)) A V N hA).mono ?_; rintro _ w3 ⟨rfl, hM3, hC3⟩
       have HR2 := Lib.hid (HR1.out.chg hC3 (by simpa using HN.out.2))
       have HM3 := Lib.hid hM3
       have HC3 := Lib.hid hC3
       clear hM3 hC3))
  go_wp2_with fail
  go_ret
  have hb := both_step (HB.out.grows ((Grows.refl _).drew)) HM2.out HC2.out HM3.out HC3.out
  exact ⟨by simp, ⟨_, hb.1⟩, (Chg.of_grows (HG.out.drew)).trans hb.2⟩
set_option maxRecDepth 100000 in
set_option maxHeartbeats 1000000 in
theorem does_4 {p q p' q' n : Nat} {B : Nat → Nat} {w : World} (hT : Widths w) (h : Both w p q p' q' n B) (A V : Nat) (N : Int) (bs : Value) :
    Calls Tryd.prog 19 #[.pointer (some ⟨p, 0, none⟩), .pointer (some ⟨p', 0, none⟩), .agg (actA 4 N A V bs)] w fun r w' => r = .returned (.bool true) ∧ (∃ C, Both w' p q p' q' n C) ∧ Chg [q, q'] w w' := by
  unfold actA
  go_enter Tryd.func19, Tryd.ntmps19
  go_wp2_with fail
  obtain ⟨ba, hba⟩ : ∃ ba, ba = w.heap.size := ⟨_, rfl⟩
  have hR : Row (w.alloc (Obj.cells #[Value.int .i64 4, .int .u64 A, .int .i64 N, .int .u64 V, bs] 49)) ba (actA 4 N A V bs) 49 := Row.new_at _ _ _ hba
  have hG := (Grows.refl w).alloc (Obj.cells #[Value.int .i64 4, .int .u64 A, .int .i64 N, .int .u64 V, bs] 49)
  have hne : ba ≠ q ∧ ba ≠ q' := by have := h.m.qlt; have := h.r.qlt; omega
  rw [← hba]
  clear hba
  generalize (w.alloc (Obj.cells #[Value.int .i64 4, .int .u64 A, .int .i64 N, .int .u64 V, bs] 49)) = W at *
  have HB := Lib.hid (h.grows hG)
  have HT := Lib.hid (hT.grows hG)
  have HR := Lib.hid hR
  have HN := Lib.hid hne
  have HG := Lib.hid hG
  clear h hT hR hne hG
  go_region_held3 (fun w' => w'.cell? ⟨ba, 2, none⟩ = some (.int .i64 N)) (first
    | exact (act_cells HR2.out).2.1
    | exact (act_cells HR1.out).2.1
    | exact (act_cells HR.out).2.1)
    (first
    | (go_at_call 14; refine (Clear_all (HB.out.grows ((Grows.refl _).drew)).m N).mono ?_; rintro _ w2 ⟨rfl, hM2, hC2⟩
       have HR1 := Lib.hid ((HR.out.grows ((Grows.refl _).drew)).chg hC2 (by simpa using HN.out.1))
       have HM2 := Lib.hid hM2
       have HC2 := Lib.hid hC2
       clear hM2 hC2)
    | (go_at_call 31; refine (rClear_all ((HB.out.grows ((Grows.refl _).drew)).r.chg HC2.out (by simp; have := HB.out.ne.1; omega) (by simp; have := HB.out.ne; omega)) N).mono ?_; rintro _ w3 ⟨rfl, hM3, hC3⟩
       have HR2 := Lib.hid (HR1.out.chg hC3 (by simpa using HN.out.2))
       have HM3 := Lib.hid hM3
       have HC3 := Lib.hid hC3
       clear hM3 hC3))
  go_wp2_with fail
  go_ret
  have hb := both_step (HB.out.grows ((Grows.refl _).drew)) HM2.out HC2.out HM3.out HC3.out
  exact ⟨by simp, ⟨_, hb.1⟩, (Chg.of_grows (HG.out.drew)).trans hb.2⟩
theorem Load_all {p q n : Nat} {B : Nat → Nat} {w : World} (hT : Widths w) (h : Mem w p q n B) (A : Nat) (N : Int) (hA : A < 18446744073709551616) :
    Calls Tryd.prog 12 #[.pointer (some ⟨p, 0, none⟩), .int .u64 A, .int .i64 N] w fun r w' => r = .returned (.tuple #[.int .u64 (if numE n A N = 0 then (loadN (segB B A N.toNat) : Nat) else 0), .int .i64 (numE n A N)]) ∧ Grows w w' := by
  by_cases he : numE n A N = 0
  · obtain ⟨W, rfl, hk, ha, hn, _, _⟩ := numE_ok he
    refine (Load_ok hT h A W hk ha hn).mono ?_
    rintro _ w1 ⟨rfl, hg⟩
    exact ⟨by rw [if_pos he, he]; rfl, hg⟩
  · refine (Load_bad h A N hA he).mono ?_
    rintro _ w1 ⟨rfl, hg⟩
    exact ⟨by rw [if_neg he], hg⟩
theorem rLoad_all {p q n : Nat} {B : Nat → Nat} {w : World} (h : RMem w p q n B) (A : Nat) (N : Int) (hA : A < 18446744073709551616) :
    Calls Tryd.prog 27 #[.pointer (some ⟨p, 0, none⟩), .int .u64 A, .int .i64 N] w fun r w' => r = .returned (.tuple #[.int .u64 (if numE n A N = 0 then (loadN (segB B A N.toNat) : Nat) else 0), .int .i64 (numE n A N)]) ∧ Grows w w' := by
  by_cases he : numE n A N = 0
  · obtain ⟨W, rfl, hk, ha, hn, _, _⟩ := numE_ok he
    refine (rLoad_ok h A W hk ha hn).mono ?_
    rintro _ w1 ⟨rfl, hg⟩
    exact ⟨by rw [if_pos he, he]; rfl, hg⟩
  · refine (rLoad_bad h A N hA he).mono ?_
    rintro _ w1 ⟨rfl, hg⟩
    exact ⟨by rw [if_neg he], hg⟩
set_option maxRecDepth 100000 in
theorem does_0 {p q p' q' n : Nat} {B : Nat → Nat} {w : World} (hT : Widths w) (h : Both w p q p' q' n B) (A V : Nat) (N : Int) (hA : A < 18446744073709551616) (bs : Value) :
    Calls Tryd.prog 19 #[.pointer (some ⟨p, 0, none⟩), .pointer (some ⟨p', 0, none⟩), .agg (actA 0 N A V bs)] w fun r w' => r = .returned (.bool true) ∧ (∃ C, Both w' p q p' q' n C) ∧ Chg [q, q'] w w' := by
  have h1 := fun w' (hg : Grows w w') => Load_all (hT.grows hg) (h.m.grows hg) A N hA
  have h2 := fun w' (hg : Grows w w') => rLoad_all (h.r.grows hg) A N hA
  generalize (if numE n A N = 0 then ((loadN (segB B A N.toNat) : Nat) : Int) else 0) = X at *
  generalize numE n A N = E at *
  unfold actA
  go_enter Tryd.func19, Tryd.ntmps19
  go_wp2_with fail
  obtain ⟨ba, hba⟩ : ∃ ba, ba = w.heap.size := ⟨_, rfl⟩
  have hR : Row (w.alloc (Obj.cells #[Value.int .i64 0, .int .u64 A, .int .i64 N, .int .u64 V, bs] 49)) ba (actA 0 N A V bs) 49 := Row.new_at _ _ _ hba
  have hG := (Grows.refl w).alloc (Obj.cells #[Value.int .i64 0, .int .u64 A, .int .i64 N, .int .u64 V, bs] 49)
  have hne : ba ≠ q ∧ ba ≠ q' := by have := h.m.qlt; have := h.r.qlt; omega
  rw [← hba]
  clear hba
  generalize (w.alloc (Obj.cells #[Value.int .i64 0, .int .u64 A, .int .i64 N, .int .u64 V, bs] 49)) = W at *
  have HB := Lib.hid (h.grows hG)
  have HT := Lib.hid (hT.grows hG)
  have HR := Lib.hid hR
  have HN := Lib.hid hne
  have HG := Lib.hid hG
  clear h hT hR hne hG
  refine (h1 _ HG.out).mono ?_
  rintro _ w2 ⟨rfl, hg2⟩
  obtain ⟨c1, c2, c3, c4, c5⟩ := act_cells (HR.out.grows hg2)
  go_wp2_with fail
  refine (h2 _ (HG.out.trans hg2)).mono ?_
  rintro _ w3 ⟨rfl, hg3⟩
  go_wp2_with fail
  go_ret
  exact ⟨by simp, ⟨_, (HB.out.grows hg2).grows hg3⟩, Chg.of_grows (HG.out.trans (hg2.trans hg3))⟩
theorem bts_conv {w : World} {b k c : Nat} {C : Nat → Nat} (h : Bts w b k C) : (convert 23 9 (.slice (some ⟨b, 0, none⟩) k c)).run Tryd.prog w = .ok (.string (strB (segB C 0 k))) w :=
  conv_bytes (segB_length _ _ _) (segB_bytes h 0 k (by omega))
set_option maxRecDepth 100000 in
set_option maxHeartbeats 1000000 in
theorem does_2 {p q p' q' n : Nat} {B : Nat → Nat} {w : World} (hT : Widths w) (h : Both w p q p' q' n B) (A V : Nat) (N : Int) (hA : A < 18446744073709551616) (hN : N ≤ 9223372036854775807) (bs : Value) :
    Calls Tryd.prog 19 #[.pointer (some ⟨p, 0, none⟩), .pointer (some ⟨p', 0, none⟩), .agg (actA 2 N A V bs)] w fun r w' => r = .returned (.bool true) ∧ (∃ C, Both w' p q p' q' n C) ∧ Chg [q, q'] w w' := by
  by_cases he : partE n A N = 0
  · obtain ⟨K, rfl, hK⟩ := partE_ok he
    have h1 := fun w' (hg : Grows w w') => Bytes_ok (h.m.grows hg) A K hK
    have h2 := fun w' (hg : Grows w w') => rBytes_ok (h.r.grows hg) A K hK
    have h24 := h.m.hn
    have l1 := h.m.plt
    have l2 := h.m.qlt
    have l3 := h.r.plt
    have l4 := h.r.qlt
    generalize hNN : (K : Int) = N at h1 h2 ⊢
    unfold actA
    go_enter Tryd.func19, Tryd.ntmps19
    go_wp2_with fail
    obtain ⟨ba, hba⟩ : ∃ ba, ba = w.heap.size := ⟨_, rfl⟩
    have hR : Row (w.alloc (Obj.cells #[Value.int .i64 2, .int .u64 A, .int .i64 N, .int .u64 V, bs] 49)) ba (actA 2 N A V bs) 49 := Row.new_at _ _ _ hba
    have hG := (Grows.refl w).alloc (Obj.cells #[Value.int .i64 2, .int .u64 A, .int .i64 N, .int .u64 V, bs] 49)
    have hne : ba ≠ q ∧ ba ≠ q' := by have := h.m.qlt; have := h.r.qlt; omega
    rw [← hba]
    clear hba
    generalize (w.alloc (Obj.cells #[Value.int .i64 2, .int .u64 A, .int .i64 N, .int .u64 V, bs] 49)) = W at *
    have HB := Lib.hid (h.grows hG)
    have HT := Lib.hid (hT.grows hG)
    have HR := Lib.hid hR
    have HN := Lib.hid hne
    have HG := Lib.hid hG
    clear h hT hR hne hG
    subst hNN
    refine (h1 _ HG.out).mono ?_
    rintro _ w2 ⟨v, rfl, b, c, rfl, hc1, hc2, hg2, hb, hB2⟩
    obtain ⟨c1, c2, c3, c4, c5⟩ := act_cells (HR.out.grows hg2)
    have HB2 := Lib.hid hB2
    have HG2 := Lib.hid hg2
    have HBN : Hid (w.heap.size ≤ b) := by show w.heap.size ≤ b; have := HG.out.size; omega
    clear hB2 hg2 hb
    go_wp2_with fail
    refine (h2 _ (HG.out.trans HG2.out)).mono ?_
    rintro _ w3 ⟨v', rfl, b', c', rfl, hc1', hc2', hg3, hb', hB3⟩
    clear c1 c2 c3 c4 c5
    have s1 := bts_conv (c := c) (HB2.out.grows hg3)
    have s2 := bts_conv (c := c') hB3
    obtain ⟨S, hS⟩ : ∃ S, S = strB (segB (fun i => B (A + i)) 0 K) := ⟨_, rfl⟩
    rw [← hS] at s1 s2
    have HB3 := Lib.hid (HB2.out.grows hg3)
    have HG3 := Lib.hid ((HG.out.trans HG2.out).trans hg3)
    have HBB := Lib.hid ((HB.out.grows HG2.out).grows hg3)
    have HBQ : Hid (b ≠ p ∧ b ≠ q ∧ b ≠ p' ∧ b ≠ q') := Lib.hid (by have := HBN.out; omega)
    clear hS hB3 hg3 hb'
    go_wp2_with fail
    go_loopw [15] (fun i wr => ∃ k : Nat, k ≤ K ∧ i = .int .i64 k ∧ (∃ C, Bts wr b K C) ∧ Chg [b] w3 wr) (fun i _ => (K - intOf i).toNat)
    case atStart => exact ⟨0, by omega, rfl, ⟨_, HB3.out⟩, Chg.refl _ _⟩
    case round =>
      obtain ⟨k, hk, rfl, ⟨C, hCr⟩, hch⟩ := hrel
      clear s1 s2
      by_cases hlt : k < K
      · have c1 : wr.cell? ⟨b, k, none⟩ = some (.int .u8 (C k : Nat)) := hCr.cell hlt
        have f1 := hCr.frozen k
        have l1 := hCr.blt
        obtain ⟨X, hX⟩ : ∃ X, X = C k := ⟨_, rfl⟩
        have hX8 := hCr.byte hlt
        rw [← hX] at c1 hX8
        have hw : ((X : Int) + 1) % 256 = (((X + 1) % 256 : Nat) : Int) := by omega
        have HW : Hid ((X + 1) % 256 < 256) := Lib.hid (Nat.mod_lt _ (by decide))
        generalize (X + 1) % 256 = Y at *
        have HCr := Lib.hid hCr
        have HCh := Lib.hid hch
        clear hCr hch hX
        go_wp2_with fail
        exact ⟨⟨k + 1, by omega, by simp, ⟨_, HCr.out.set1 hlt HW.out⟩, HCh.out.setCell (Or.inl (by simp)) _ _⟩, by simp [intOf]; omega⟩
      · have : k = K := by omega
        subst this
        go_wp2_with fail
        go_ret
        obtain ⟨n1, n2, n3, n4⟩ := HBQ.out
        exact ⟨rfl, ⟨B, HBB.out.m.chg hch (by simp; omega) (by simp; omega), HBB.out.r.chg hch (by simp; omega) (by simp; omega), HBB.out.ne⟩, (Chg.of_grows HG3.out).step hch (by have := HBN.out; simp; omega)⟩
  · have h1 := fun w' (hg : Grows w w') => Bytes_bad (h.m.grows hg) A N hA hN he
    have h2 := fun w' (hg : Grows w w') => rBytes_bad (h.r.grows hg) A N hA hN he
    generalize partE n A N = E at *
    unfold actA
    go_enter Tryd.func19, Tryd.ntmps19
    go_wp2_with fail
    obtain ⟨ba, hba⟩ : ∃ ba, ba = w.heap.size := ⟨_, rfl⟩
    have hR : Row (w.alloc (Obj.cells #[Value.int .i64 2, .int .u64 A, .int .i64 N, .int .u64 V, bs] 49)) ba (actA 2 N A V bs) 49 := Row.new_at _ _ _ hba
    have hG := (Grows.refl w).alloc (Obj.cells #[Value.int .i64 2, .int .u64 A, .int .i64 N, .int .u64 V, bs] 49)
    have hne : ba ≠ q ∧ ba ≠ q' := by have := h.m.qlt; have := h.r.qlt; omega
    rw [← hba]
    clear hba
    generalize (w.alloc (Obj.cells #[Value.int .i64 2, .int .u64 A, .int .i64 N, .int .u64 V, bs] 49)) = W at *
    have HB := Lib.hid (h.grows hG)
    have HT := Lib.hid (hT.grows hG)
    have HR := Lib.hid hR
    have HN := Lib.hid hne
    have HG := Lib.hid hG
    clear h hT hR hne hG
    refine (h1 _ HG.out).mono ?_
    rintro _ w2 ⟨rfl, hg2⟩
    obtain ⟨c1, c2, c3, c4, c5⟩ := act_cells (HR.out.grows hg2)
    have HG2 := Lib.hid hg2
    clear hg2
    go_wp2_with fail
    refine (h2 _ (HG.out.trans HG2.out)).mono ?_
    rintro _ w3 ⟨rfl, hg3⟩
    clear c1 c2 c3 c4 c5
    have s1 := fun w => conv_nil w 0 0
    have HG3 := Lib.hid (HG2.out.trans hg3)
    clear hg3
    go_wp2_with fail
    go_loopw [15] (fun i wr => i = .int .i64 0 ∧ wr = w3) (fun i _ => 0)
    case atStart => exact ⟨rfl, rfl⟩
    case round =>
      obtain ⟨rfl, rfl⟩ := hrel
      go_wp2_with fail
      go_ret
      exact ⟨rfl, ⟨B, HB.out.grows HG3.out⟩, Chg.of_grows (HG.out.trans HG3.out)⟩
theorem Put_all {p q n m c : Nat} {B : Nat → Nat} {w : World} {a : Option Addr} {bs : List Nat} (h : Mem w p q n B) (A : Nat) (hA : A < 18446744073709551616) (hs : Src w a bs) (hm : bs.length = m) (hm63 : m ≤ 9223372036854775807) :
    Calls Tryd.prog 9 #[.pointer (some ⟨p, 0, none⟩), .int .u64 A, .slice a m c] w fun r w' => r = .returned (.int .i64 (partE n A m)) ∧ Mem w' p q n (if partE n A m = 0 then putB B A bs else B) ∧ Chg [q] w w' := by
  by_cases he : partE n A m = 0
  · obtain ⟨K, hK, hn⟩ := partE_ok he
    obtain rfl : m = K := by omega
    refine (Put_ok h A m c a bs hs hm hn).mono ?_
    rintro _ w1 ⟨rfl, hM, hC⟩
    exact ⟨by rw [he], by rw [if_pos he]; exact hM, hC⟩
  · refine (Put_bad h A m c a hA hm63 he).mono ?_
    rintro _ w1 ⟨rfl, hg⟩
    exact ⟨rfl, by rw [if_neg he]; exact h.grows hg, Chg.of_grows hg⟩
theorem rPut_all {p q n m c : Nat} {B : Nat → Nat} {w : World} {a : Option Addr} {bs : List Nat} (h : RMem w p q n B) (A : Nat) (hA : A < 18446744073709551616) (hs : Src w a bs) (hm : bs.length = m) (hm63 : m ≤ 9223372036854775807) (hq : ∀ b o, a = some ⟨b, o, none⟩ → 0 < m → b ≠ q) :
    Calls Tryd.prog 30 #[.pointer (some ⟨p, 0, none⟩), .int .u64 A, .slice a m c] w fun r w' => r = .returned (.int .i64 (partE n A m)) ∧ RMem w' p q n (if partE n A m = 0 then putB B A bs else B) ∧ Chg [q] w w' := by
  by_cases he : partE n A m = 0
  · obtain ⟨K, hK, hn⟩ := partE_ok he
    obtain rfl : m = K := by omega
    refine (rPut_ok h A m c a bs hs hm hn hq).mono ?_
    rintro _ w1 ⟨rfl, hM, hC⟩
    exact ⟨by rw [he], by rw [if_pos he]; exact hM, hC⟩
  · refine (rPut_bad h A m c a hA hm63 he).mono ?_
    rintro _ w1 ⟨rfl, hg⟩
    exact ⟨rfl, by rw [if_neg he]; exact h.grows hg, Chg.of_grows hg⟩
theorem Src.chg {S : List Nat} {w w' : World} {A : Option Addr} {bs : List Nat} (h : Src w A bs) (hc : Chg S w w') (hS : ∀ b o, A = some ⟨b, o, none⟩ → 0 < bs.length → b ∉ S) : Src w' A bs := by
  refine ⟨h.1, ?_⟩
  rcases h.2 with h | ⟨ad, ha, h⟩
  · exact Or.inl h
  · refine Or.inr ⟨ad, ha, fun j hj => ?_⟩
    obtain ⟨b, o, e, hb, hcl⟩ := h j hj
    exact ⟨b, o, e, hc.lt hb, by rw [hc.cell hb (hS b o (by rw [ha, e]) (by omega))]; exact hcl⟩
theorem Row.grownBy {w w' : World} {k : Nat} {c : Array Value} {t : TypeId} {row : Option Nat} (h : Row w k c t) (hg : w.grownBy w' row) (hn : some k ≠ row) : Row w' k c t := by
  have := h.lt
  unfold Row at *
  rw [hg.block k this hn]; exact h
theorem newB_of_own' {w wr : World} {e : TypeId} {v : Value} {bs : List Nat} {k base : Nat} (h : wr.ownsRow base e 1 v k (u8s bs)) (hbase : w.heap.size ≤ base) (hv : v ≠ .slice none 0 0) (hk : bs.length = k)
    (hg : Grows w wr) (hb : ∀ x ∈ bs, x < 256) : ∃ b c, v = .slice (some ⟨b, 0, none⟩) k c ∧ k ≤ c ∧ c ≤ 9223372036854775807 ∧ base ≤ b ∧ Bts wr b k (fun i => bs.getD i 0) := by
  subst hk
  rcases h.2 with ⟨hn, hz⟩ | ⟨g, cap, cur, rfl, hge, hh, hn, hm, hs, ht⟩
  · exact absurd hn hv
  · refine ⟨g, cap, rfl, hn, by unfold maxLen at hm; omega, hge, ⟨⟨cur, e, hh, by omega, fun i hi => ?_⟩, fun i hi => getD_lt hb i⟩⟩
    have h1 : (cur.toList.take (bs.length * 1))[i]? = some (.int .u8 (bs.getD i 0 : Nat)) := by
      rw [ht]; simp [u8s, List.getD, hi]
    rw [List.getElem?_take_of_lt (by omega)] at h1
    simpa using h1
set_option maxRecDepth 100000 in
set_option maxHeartbeats 4000000 in
theorem does_3 {p q p' q' n : Nat} {B : Nat → Nat} {w : World} (hT : Widths w) (h : Both w p q p' q' n B) (A V : Nat) (N : Int) (hA : A < 18446744073709551616) (a : Option Addr) (m c : Nat) (ds : List Nat)
    (hs : Src w a ds) (hm : ds.length = m) (hmc : m ≤ c) (hc47 : c < 140737488355328) (hca : a = none → c = 0) (hq : ∀ b o, a = some ⟨b, o, none⟩ → 0 < m → b ≠ q ∧ b ≠ q') :
    Calls Tryd.prog 19 #[.pointer (some ⟨p, 0, none⟩), .pointer (some ⟨p', 0, none⟩), .agg (actA 3 N A V (.slice a m c))] w fun r w' => r = .returned (.bool true) ∧ (∃ C, Both w' p q p' q' n C) ∧ Chg [q, q'] w w' := by
  obtain ⟨i0, hi, hz0, hz1, hz2⟩ := info_parts info_u8
  have l1 := h.m.plt
  have l2 := h.m.qlt
  have l3 := h.r.plt
  have l4 := h.r.qlt
  have HS0 := Lib.hid hs
  have HM := Lib.hid hm
  have HCA := Lib.hid hca
  have HQ := Lib.hid hq
  clear hs hm hca hq
  have hR0 : Row (w.alloc (Obj.cells #[Value.int .i64 3, .int .u64 A, .int .i64 N, .int .u64 V, .slice a m c] 49)) w.heap.size (actA 3 N A V (.slice a m c)) 49 := Row.new _ _ _
  have hG0 := ((Grows.refl w).alloc (Obj.cells #[Value.int .i64 3, .int .u64 A, .int .i64 N, .int .u64 V, .slice a m c] 49)).alloc (Obj.cells #[] 5)
  have hown0 : ((w.alloc (Obj.cells #[Value.int .i64 3, .int .u64 A, .int .i64 N, .int .u64 V, .slice a m c] 49)).alloc (Obj.cells #[] 5)).ownsRow (w.heap.size + 1) 5 1 (.slice (some ⟨w.heap.size + 1, 0, none⟩) 0 0) 0 (u8s []) := ⟨rfl, Or.inr ⟨w.heap.size + 1, 0, #[], rfl, Nat.le_refl _, Row.new_at _ _ _ (by simp), Nat.le_refl _, by simp, rfl, rfl⟩⟩
  have HR0 := Lib.hid (hR0.grows ((Grows.refl _).alloc (Obj.cells #[] 5)))
  have HG0 := Lib.hid hG0
  have HO0 := Lib.hid hown0
  have HSS := Lib.hid (HS0.out.grows hG0)
  have HB := Lib.hid h
  have HT := Lib.hid hT
  clear h hT hR0 hG0 hown0
  unfold actA
  go_enter Tryd.func19, Tryd.ntmps19
  go_wp2_with (first
    | (at_builtin; refine wpList_append_src (hgd := by rfl) (s := .tmp 113) (x := .tmp 115) (ho := by rfl) (base := w.heap.size + 1) (v := .slice (some ⟨w.heap.size + 1, 0, none⟩) 0 0) (n := 0) (xs := []) (hs := by rfl) (hown := by exact HO0.out) (A := a) (bs := ds) (m := m) (c := c) (hx := by rfl) (hm := HM.out) (hb := by exact HSS.out) (h47 := by omega) (hbase := by simp) (hc := HCA.out) (h := ?_)
       intro v1 w1 hown1 hgr1 hnn1
       have HG1 := Lib.hid (HG0.out.grown hgr1 (fun b hb => by have := ownsRow_block HO0.out b hb; omega))
       have HZ1 : Hid (w.heap.size + 1 < w1.heap.size) := by show _ < _; have := hgr1.size; simp at this; omega
       have HO1 := Lib.hid (show w1.ownsRow (w.heap.size + 1) 5 1 v1 m (u8s ds) by simpa using hown1)
       have HN1 : Hid (v1 ≠ .slice none 0 0) := fun e => by have := hnn1 e; cases this
       have HR1 : Hid (Row w1 w.heap.size (actA 3 N A V (.slice a m c)) 49) := HR0.out.chg ((Chg.refl [w.heap.size + 1] _).grownBy hgr1 (by rintro b hb; cases hb; left; simp)) (by simp)
       clear hown1 hgr1 hnn1 HO0 HSS HR0)
    | (at_builtin; refine wpList_append_own _ (by rfl) (.tmp 116) (.tmp 117) 23 (by rfl) (w.heap.size + 1) 5 i0 (.int .u8 0) 1 1 Tryd.underlying23 hi hz0 hz1 hz2 (by rfl) (by decide) v1 m (u8s ds) (by rfl) (HO1.out.alloc _) ⟨w1.heap.size, 0, none⟩ 1 1 [.int .u8 90] (by rfl) (by rfl) ?c1 ?c2 ?c3 ?c4 ?c5 ?_
       case c1 => exact cell_one_new _ _ _
       case c2 => intro u hu; simp at hu; subst hu; rfl
       case c3 => unfold maxLen; omega
       case c4 => omega
       case c5 => have := HZ1.out; simp; omega
       intro v2 w2 hown2 hgr2 hnn2
       have HG2 := Lib.hid ((HG1.out.alloc _).grown hgr2 (fun b hb => by have := ownsRow_block HO1.out b hb; omega))
       have HO2 := Lib.hid (show w2.ownsRow (w.heap.size + 1) 5 1 v2 (m + 1) (u8s (ds ++ [90])) by rw [show u8s (ds ++ [90]) = u8s ds ++ [.int .u8 90] by simp]; exact hown2)
       have HN2 : Hid (v2 ≠ .slice none 0 0) := fun e => by have := (hnn2.1 e).2; omega
       have HR2 : Hid (Row w2 w.heap.size (actA 3 N A V (.slice a m c)) 49) := Row.grownBy (HR1.out.grows ((Grows.refl _).alloc _)) hgr2 (fun he => by have := ownsRow_block HO1.out _ he.symm; omega)
       clear hown2 hgr2 hnn2 HO1 HG1 HR1))
  obtain ⟨bi, ci, rfl, hci, hcm, hbi, hBi⟩ := newB_of_own' (w := w) HO2.out (by omega) HN2.out (by rw [List.length_append, HM.out]; rfl) HG2.out (by
    intro x hx
    rw [List.mem_append] at hx
    rcases hx with hx | hx
    · exact HS0.out.1 x hx
    · simp at hx; omega)
  have HBi := Lib.hid hBi
  have HBI : Hid (w.heap.size + 1 ≤ bi) := hbi
  have hsrc : Src w2 (some ⟨bi, 0, none⟩) ds := by
    have h1 := segB_bytes hBi 0 m (by omega)
    have h2 : segB (fun i => (ds ++ [90]).getD i 0) 0 m = ds := by
      apply List.ext_getElem
      · simp [segB, HM.out]
      · intro i h1 h2
        simp [segB, List.getElem?_append_left h2, h2]
    rw [h2] at h1
    exact Src.of_bytes h1 hBi.blt
  have HSRC := Lib.hid hsrc
  clear hBi hbi hsrc HO2 HN2
  have hmci : m ≤ ci := by omega
  go_region_held3 (fun w' => w'.cell? ⟨w.heap.size, 1, none⟩ = some (.int .u64 A) ∧ w'.cell? ⟨w.heap.size, 4, none⟩ = some (.slice a m c)) (first
    | exact ⟨(act_cells HR3.out).1, (act_cells HR3.out).2.2.2.1⟩
    | exact ⟨(act_cells HR2.out).1, (act_cells HR2.out).2.2.2.1⟩)
    (first
    | (go_at_call 9; refine (Put_all (HB.out.grows (HG2.out.drew)).m A hA (HSRC.out.grows ((Grows.refl _).drew)) HM.out (by omega)).mono ?_; rintro _ w3 ⟨rfl, hM3, hC3⟩
       have HR3 := Lib.hid ((HR2.out.grows ((Grows.refl _).drew)).chg hC3 (by simp; omega))
       have HM3 := Lib.hid hM3
       have HC3 := Lib.hid hC3
       clear hM3 hC3))
  obtain ⟨c1, c2, c3, c4, c5⟩ := act_cells HR3.out
  have HS3 : Hid (Src w3 a ds) := Src.chg (HS0.out.grows (HG2.out.drew)) HC3.out (fun b o e h0 => by have := (HQ.out b o e (by rw [← HM.out]; exact h0)).1; simpa using this)
  have hput := rPut_all (c := c) ((HB.out.grows (HG2.out.drew)).r.chg HC3.out (by simp; have := HB.out.ne; omega) (by simp; have := HB.out.ne; omega)) A hA HS3.out HM.out (by omega) (fun b o e h0 => (HQ.out b o e h0).2)
  generalize partE n A m = E at *
  go_wp2_with fail
  refine hput.mono ?_
  rintro _ w4 ⟨rfl, hM4, hC4⟩
  clear c1 c2 c3 c4 c5
  have hb := both_step (HB.out.grows (HG2.out.drew)) HM3.out HC3.out hM4 hC4
  have HF := Lib.hid hb
  obtain ⟨c1, c2, c3, c4, c5⟩ := act_cells (HR3.out.chg hC4 (by simp; omega))
  have HS4 : Hid (Src w4 a ds) := Src.chg HS3.out hC4 (fun b o e h0 => by have := (HQ.out b o e (by rw [← HM.out]; exact h0)).2; simpa using this)
  have HB4 : Hid (Bts w4 bi (m + 1) (fun i => (ds ++ [90]).getD i 0)) := ((HBi.out.grows ((Grows.refl _).drew)).chg HC3.out (by have := HBI.out; simp; omega)).chg hC4 (by have := HBI.out; simp; omega)
  clear hb hM4 hC4 hput
  obtain ⟨S, hS⟩ : ∃ S, S = strB ds := ⟨_, rfl⟩
  have k1 : (convert 23 9 (.slice (some ⟨bi, 0, none⟩) (m + 1) ci)).run Tryd.prog w4 = .ok (.string (S ++ ⟨#[90]⟩)) w4 := by
    have e : segB (fun i => (ds ++ [90]).getD i 0) 0 (m + 1) = ds ++ [90] := by
      apply List.ext_getElem
      · simp [segB, HM.out]
      · intro i h1 h2
        simp only [segB, List.getElem_map, List.getElem_range, Nat.zero_add, List.getD]
        rw [List.getElem?_eq_getElem h2]
        rfl
    have := bts_conv (c := ci) HB4.out
    rw [e, strB_snoc ds 90 (by decide), ← hS] at this
    exact this
  have k2 : (convert 23 9 (.slice a m c)).run Tryd.prog w4 = .ok (.string S) w4 := by
    rw [hS]; exact HS4.out.conv m c HM.out
  have hsz : S.size ≤ 140737488355327 := by rw [hS, strB_size, HM.out]; omega
  clear hS
  go_wp2_with fail
  go_ret
  exact ⟨by simp, ⟨_, HF.out.1⟩, (Chg.of_grows (HG2.out.drew)).trans HF.out.2⟩
set_option maxRecDepth 100000 in
theorem does_other {p q p' q' n : Nat} {B : Nat → Nat} {w : World} (h : Both w p q p' q' n B) (k : Int) (hk : k ≠ 0 ∧ k ≠ 1 ∧ k ≠ 2 ∧ k ≠ 3 ∧ k ≠ 4) (A V : Nat) (N : Int) (bs : Value) :
    Calls Tryd.prog 19 #[.pointer (some ⟨p, 0, none⟩), .pointer (some ⟨p', 0, none⟩), .agg (actA k N A V bs)] w fun r w' => r = .returned (.bool true) ∧ (∃ C, Both w' p q p' q' n C) ∧ Chg [q, q'] w w' := by
  obtain ⟨h0, h1, h2, h3, h4⟩ := hk
  have e0 : (k == 0) = false := by simp [h0]
  have e1 : (k == 1) = false := by simp [h1]
  have e2 : (k == 2) = false := by simp [h2]
  have e3 : (k == 3) = false := by simp [h3]
  have e4 : (k == 4) = false := by simp [h4]
  have HB := Lib.hid h
  clear h0 h1 h2 h3 h4 h
  unfold actA
  go_enter Tryd.func19, Tryd.ntmps19
  go_wp2_with fail
  go_ret
  exact ⟨rfl, ⟨B, HB.out.grows ((Grows.refl _).alloc _)⟩, Chg.of_grows ((Grows.refl _).alloc _)⟩
theorem does_any {p q p' q' n : Nat} {B : Nat → Nat} {w : World} (hT : Widths w) (h : Both w p q p' q' n B) (k : Int) (A V : Nat) (N : Int) (hA : A < 18446744073709551616) (hN : N ≤ 9223372036854775807) (a : Option Addr) (m c : Nat) (ds : List Nat)
    (hs : Src w a ds) (hm : ds.length = m) (hmc : m ≤ c) (hc47 : c < 140737488355328) (hca : a = none → c = 0) (hq : ∀ b o, a = some ⟨b, o, none⟩ → 0 < m → b ≠ q ∧ b ≠ q') :
    Calls Tryd.prog 19 #[.pointer (some ⟨p, 0, none⟩), .pointer (some ⟨p', 0, none⟩), .agg (actA k N A V (.slice a m c))] w fun r w' => r = .returned (.bool true) ∧ (∃ C, Both w' p q p' q' n C) ∧ Chg [q, q'] w w' := by
  by_cases h0 : k = 0
  · subst h0; exact does_0 hT h A V N hA _
  by_cases h1 : k = 1
  · subst h1; exact does_1 hT h A V N hA _
  by_cases h2 : k = 2
  · subst h2; exact does_2 hT h A V N hA hN _
  by_cases h3 : k = 3
  · subst h3; exact does_3 hT h A V N hA a m c ds hs hm hmc hc47 hca hq
  by_cases h4 : k = 4
  · subst h4; exact does_4 hT h A V N _
  exact does_other h k ⟨h0, h1, h2, h3, h4⟩ A V N _
end Go.Proofs.YtoehigcojgeioaaDoor
