/- The reference's step, whatever the state, and its new lock. -/
import Derived.Test.YtbiadhgkpggdeaaDoorRTickS
import Derived.BigRegion
namespace Go.Proofs.YtbiadhgkpggdeaaDoor
open Go Go.RowKit
set_option linter.unusedSimpArgs false
set_option linter.unusedVariables false
theorem rstep_any {w : World} {rl rp rq N A qs qt n i : Nat} {B S T : Nat → Nat} (h : RReady w rl rp rq N A qs qt n B S T) (hi : i < n) (h4 : S i ≤ 4) :
    Calls Tryd.prog 19 #[.pointer (some ⟨rl, 0, none⟩), .int .i64 i] w fun r w' => r = .returned (.tuple #[.int .i64 (nxS S T (numB B (A + 8)) i : Nat), .int .i64 0]) ∧
      RReady w' rl rp rq N A qs qt n (nxB S A B i) (updN S i (nxS S T (numB B (A + 8)) i)) (nxT S T (numB B A) i) ∧ Chg [qs, qt, rq] w w' := by
  have : S i = 0 ∨ S i = 1 ∨ S i = 2 ∨ S i = 3 ∨ S i = 4 := by omega
  rcases this with e | e | e | e | e
  · have := rstep_0 h hi e (Or.inl rfl) rfl rfl
    simpa [nxS, nxT, nxB, e] using this
  · have := rstep_1 h hi e rfl rfl
    simpa [nxS, nxT, nxB, e] using this
  · have := rstep_2 h hi e rfl rfl
    simp only [nxS, nxT, nxB, e]
    by_cases hv : numB B (A + 8) = T i
    · simpa [hv] using this
    · simpa [hv] using this
  · have := rstep_0 h hi e (Or.inr rfl) rfl rfl
    simpa [nxS, nxT, nxB, e] using this
  · have := rstep_4 h hi e rfl rfl
    simpa [nxS, nxT, nxB, e] using this
theorem rstep_bad {w : World} {rl rp rq N A qs qt n : Nat} {i : Int} {B S T : Nat → Nat} (h : RReady w rl rp rq N A qs qt n B S T) (hi : i < 0 ∨ (n : Int) ≤ i) :
    Calls Tryd.prog 19 #[.pointer (some ⟨rl, 0, none⟩), .int .i64 i] w fun r w' => r = .returned (.tuple #[.int .i64 0, .int .i64 2]) ∧ w' = w := by
  have hh := Has_no h hi
  clear h hi
  go_enter Tryd.func19, Tryd.ntmps19
  go_wp2_with fail
  refine hh.mono ?_
  rintro _ _ ⟨rfl, hw⟩
  rw [hw]
  clear hw
  go_wp2_with fail
  go_ret2
  exact ⟨rfl, rfl⟩
theorem rlnew_bad {w : World} {p q N A : Nat} {c : Int} {B : Nat → Nat} (h : RMem w p q N B) (h256 : 256 ≤ N) (he : lockE N A c ≠ 0) :
    Calls Tryd.prog 17 #[.pointer (some ⟨p, 0, none⟩), .int .u64 A, .int .i64 c] w fun r w' => r = .returned (.tuple #[.pointer none, .int .i64 (lockE N A c)]) ∧ w' = w := by
  have hN := h.hn
  obtain ⟨cc, e1, e2, e3⟩ := h.hd
  have c0 : w.cell? ⟨p, 0, none⟩ = some (.slice (some ⟨q, 0, none⟩) N cc) := e3.cell 0
  clear h e3
  by_cases h1 : c < 1
  · have hE : Hid (lockE N A c = 2) := by show _ = _; unfold lockE; rw [if_pos (Or.inl h1)]
    rw [hE.out]
    clear he
    go_enter Tryd.func17, Tryd.ntmps17
    go_wp2_with fail
    go_ret2
    exact ⟨rfl, rfl⟩
  by_cases h2 : 8 < c
  · have hE : Hid (lockE N A c = 2) := by show _ = _; unfold lockE; rw [if_pos (Or.inr h2)]
    rw [hE.out]
    clear he
    go_enter Tryd.func17, Tryd.ntmps17
    go_wp2_with fail
    go_ret2
    exact ⟨rfl, rfl⟩
  have d1 : decide (c < 1) = false := decide_eq_false h1
  have d2 : decide (8 < c) = false := decide_eq_false h2
  by_cases h3 : A % 8 = 0
  · have h4 : ¬ (16 ≤ N ∧ A ≤ N - 16) := by
      intro hh
      apply he
      unfold lockE
      rw [if_neg (by omega), if_neg (by omega), if_pos hh]
    have hE : Hid (lockE N A c = 12) := by show _ = _; unfold lockE; rw [if_neg (by omega), if_neg (by omega), if_neg h4]
    rw [hE.out]
    have hd : ((A : Int) % 8 != 0) = false := by simp; omega
    have hx : IntKind.i64.wrap ((N : Int) - 16) = (N : Int) - 16 := by rw [IntKind.wrap_i64]; omega
    have hu : IntKind.u64.wrap ((N : Int) - 16) = (N : Int) - 16 := wrap_u64_small (by omega) (by omega)
    have hg : decide ((N : Int) - 16 < (A : Int)) = true := decide_eq_true (by omega)
    clear he h4 h3
    go_enter Tryd.func17, Tryd.ntmps17
    go_wp2_with fail
    go_ret2
    exact ⟨rfl, rfl⟩
  · have hE : Hid (lockE N A c = 11) := by show _ = _; unfold lockE; rw [if_neg (by omega), if_pos h3]
    rw [hE.out]
    have hd : ((A : Int) % 8 != 0) = true := by simp; omega
    clear he h3
    go_enter Tryd.func17, Tryd.ntmps17
    go_wp2_with fail
    go_ret2
    exact ⟨rfl, rfl⟩
theorem info_int : (Tryd.prog.info? 3).map (fun i => (i.zero, i.size, i.bytes)) = some (some (.int .i64 0), 1, 8) := by kernel_rfl
theorem info_u64 : (Tryd.prog.info? 30).map (fun i => (i.zero, i.size, i.bytes)) = some (some (.int .u64 0), 1, 8) := by kernel_rfl
theorem run_make_int (c : Nat) (hc : c ≤ 8) (w : World) : (Instr.makeSlice 22 (.int .i64 c) (.int .i64 c)).run Tryd.prog w =
    .ok (.slice (some ⟨w.heap.size, 0, none⟩) c c) (w.alloc (.cells (madeCells #[.int .i64 0] c) 3)) := by
  obtain ⟨i0, hi, hz0, hz1, hz2⟩ := info_parts info_int
  have h := run_make (P := Tryd.prog) w 22 3 i0 (.int .i64 0) Tryd.underlying22 hi hz0 .i64 .i64 (c : Int) (c : Int) (by omega) (by omega) (by rw [hz2]; omega) (by omega)
  rw [h, hz1]
  simp
  rfl
theorem run_make_u64 (c : Nat) (hc : c ≤ 8) (w : World) : (Instr.makeSlice 63 (.int .i64 c) (.int .i64 c)).run Tryd.prog w =
    .ok (.slice (some ⟨w.heap.size, 0, none⟩) c c) (w.alloc (.cells (madeCells #[.int .u64 0] c) 30)) := by
  obtain ⟨i0, hi, hz0, hz1, hz2⟩ := info_parts info_u64
  have h := run_make (P := Tryd.prog) w 63 30 i0 (.int .u64 0) Tryd.underlying63 hi hz0 .i64 .i64 (c : Int) (c : Int) (by omega) (by omega) (by rw [hz2]; omega) (by omega)
  rw [h, hz1]
  simp
  rfl
theorem put_zeros (B : Nat → Nat) (A : Nat) : putB (putB B A (leB 0 8)) (A + 8) (leB 0 8) = putB B A (List.replicate 16 0) := by
  have e : leB 0 8 = List.replicate 8 0 := by decide
  rw [e]
  funext j
  unfold putB
  simp only [List.length_replicate]
  by_cases h1 : A + 8 ≤ j ∧ j < A + 8 + 8
  · rw [if_pos h1, if_pos (by omega), List.getD_eq_getElem?_getD, List.getD_eq_getElem?_getD, List.getElem?_replicate_of_lt (by omega), List.getElem?_replicate_of_lt (by omega)]
  · rw [if_neg h1]
    by_cases h2 : A ≤ j ∧ j < A + 8
    · rw [if_pos h2, if_pos (by omega), List.getD_eq_getElem?_getD, List.getD_eq_getElem?_getD, List.getElem?_replicate_of_lt (by omega), List.getElem?_replicate_of_lt (by omega)]
    · rw [if_neg h2, if_neg (by omega)]
theorem laid3 (w : World) (c1 c2 c3 : Array Value) (t1 t2 t3 : TypeId) (w3 : World) (h : w3 = (((w.alloc (.cells c1 t1)).alloc (.cells c2 t2)).alloc (.cells c3 t3)).drew) :
    Row w3 w.heap.size c1 t1 ∧ Row w3 (w.heap.size + 1) c2 t2 ∧ Row w3 (w.heap.size + 1 + 1) c3 t3 ∧ Grows w w3 := by
  subst h
  refine ⟨(((Row.new w c1 t1).grows ((Grows.refl _).alloc _)).grows ((Grows.refl _).alloc _)).grows ((Grows.refl _).drew), ?_, ?_, ((((Grows.refl _).alloc _).alloc _).alloc _).drew⟩
  · have h : Row ((w.alloc (.cells c1 t1)).alloc (.cells c2 t2)) (w.heap.size + 1) c2 t2 := Row.new_at _ _ _ (by simp)
    exact (h.grows ((Grows.refl _).alloc _)).grows ((Grows.refl _).drew)
  · have h : Row (((w.alloc (.cells c1 t1)).alloc (.cells c2 t2)).alloc (.cells c3 t3)) (w.heap.size + 1 + 1) c3 t3 := Row.new_at _ _ _ (by simp)
    exact h.grows ((Grows.refl _).drew)
theorem Nums.of_made {w : World} {q n : Nat} {k : IntKind} {t : TypeId} (h : Row w q (madeCells #[.int k 0] n) t) : Nums w q n k (fun _ => 0) := ⟨_, t, h, by rw [size_madeCells], fun i hi => madeCells_at _ n hi⟩
set_option maxRecDepth 100000 in
theorem rlnew_ok {w : World} {p q N A c : Nat} {B : Nat → Nat} (h : RMem w p q N B) (h256 : 256 ≤ N) (hc1 : 1 ≤ c) (hc8 : c ≤ 8) (hA8 : A % 8 = 0) (hAN : A + 16 ≤ N) :
    Calls Tryd.prog 17 #[.pointer (some ⟨p, 0, none⟩), .int .u64 A, .int .i64 c] w fun r w' => ∃ rl qs qt, r = .returned (.tuple #[.pointer (some ⟨rl, 0, none⟩), .int .i64 0]) ∧
      RReady w' rl p q N A qs qt c (putB B A (List.replicate 16 0)) (fun _ => 0) (fun _ => 0) ∧ Chg [q] w w' ∧ w.heap.size ≤ qs ∧ w.heap.size ≤ qt ∧ w.heap.size ≤ rl := by
  have hN := h.hn
  obtain ⟨cc, e1, e2, e3⟩ := h.hd
  have c0 : w.cell? ⟨p, 0, none⟩ = some (.slice (some ⟨q, 0, none⟩) N cc) := e3.cell 0
  have hd : ((A : Int) % 8 != 0) = false := by simp; omega
  have hx : IntKind.i64.wrap ((N : Int) - 16) = (N : Int) - 16 := by rw [IntKind.wrap_i64]; omega
  have hu : IntKind.u64.wrap ((N : Int) - 16) = (N : Int) - 16 := wrap_u64_small (by omega) (by omega)
  have hg : decide ((N : Int) - 16 < (A : Int)) = false := decide_eq_false (by omega)
  have d1 : decide ((c : Int) < 1) = false := decide_eq_false (by omega)
  have d2 : decide ((8 : Int) < c) = false := decide_eq_false (by omega)
  have e8 : IntKind.u64.wrap ((A : Int) + 8) = (A : Int) + 8 := wrap_u64_small (by omega) (by omega)
  have hs1 := rStore_ok h A 8 0 rfl hA8 (by omega)
  have hs2 := fun w' (hM : RMem w' p q N (putB B A (leB 0 8))) => rStore_ok hM (A + 8) 8 0 rfl (by omega) (by omega)
  have hm1 := run_make_int c hc8
  have hm2 := run_make_u64 c hc8
  have HA := Lib.hid hA8
  have HP := Lib.hid (put_zeros B A)
  have E8 : Hid ((A : Int) + 8 = ((A + 8 : Nat) : Int)) := by show _ = _; omega
  have HQ := Lib.hid h.ne
  have L1 := Lib.hid (And.intro h.plt h.qlt)
  clear h hA8 e3
  go_enter Tryd.func17, Tryd.ntmps17
  go_wp2_with fail
  refine hs1.mono ?_
  rintro _ w1 ⟨rfl, hM1, hC1⟩
  clear c0 hs1
  go_wp2_with fail
  rw [E8.out]
  refine (hs2 _ hM1).mono ?_
  rintro _ w2 ⟨rfl, hM2, hC2⟩
  rw [HP.out] at hM2
  have HM2 := Lib.hid hM2
  have HC := Lib.hid (hC1.trans hC2)
  clear hs2 hM1 hC1 hM2 hC2
  go_wp2_with fail
  go_region
  all_goals
    go_wp2_with fail
    go_ret2
    obtain ⟨r1, r2, r3, hg⟩ := laid3 w2 _ _ _ _ _ _ _ rfl
    have hsz := HC.out.size
    have hl := L1.out
    have hlt := And.intro HM2.out.plt HM2.out.qlt
    have hq := HQ.out
    first
    | exact ⟨w2.heap.size + 1 + 1, w2.heap.size, w2.heap.size + 1, rfl, ⟨r3, Nums.of_made r1, Nums.of_made r2, HM2.out.grows hg, hc1, hc8, HA.out, hAN, by omega⟩, HC.out.grows hg, by omega, by omega, by omega⟩
    | exact ⟨w2.heap.size + 1 + 1, w2.heap.size + 1, w2.heap.size, rfl, ⟨r3, Nums.of_made r2, Nums.of_made r1, HM2.out.grows hg, hc1, hc8, HA.out, hAN, by omega⟩, HC.out.grows hg, by omega, by omega, by omega⟩
end Go.Proofs.YtbiadhgkpggdeaaDoor
