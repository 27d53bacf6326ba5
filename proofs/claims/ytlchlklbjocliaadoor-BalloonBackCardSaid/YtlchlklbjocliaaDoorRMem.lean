/- What the functions of the reference of the package mem compute. -/
import Derived.Test.YtlchlklbjocliaaDoorMem
namespace Go.Proofs.YtlchlklbjocliaaDoor
open Go Go.RowKit
set_option linter.unusedSimpArgs false
set_option linter.unusedVariables false
set_option maxRecDepth 100000
abbrev RMem := MemAt 75
theorem rnew_bad (F : Int) (hF : F < 1 ∨ 65536 < F) (w : World) :
    Calls Tryd.prog 54 #[.int .i64 F] w fun r w' => r = .returned (.tuple #[.pointer none, .int .i64 2]) ∧ Grows w w' := by
  by_cases h : F < 1
  · go_enter Tryd.func54, Tryd.ntmps54
    go_wp2_with fail
    go_ret2
    exact ⟨rfl, Grows.refl _⟩
  · have h2 : 65536 < F := by omega
    clear hF
    go_enter Tryd.func54, Tryd.ntmps54
    go_wp2_with fail
    go_ret2
    exact ⟨rfl, Grows.refl _⟩
theorem rnew_ok (F : Nat) (h1 : 1 ≤ F) (h2 : F ≤ 65536) (w : World) :
    Calls Tryd.prog 54 #[.int .i64 F] w fun r w' => ∃ p q, r = .returned (.tuple #[.pointer (some ⟨p, 0, none⟩), .int .i64 0]) ∧ RMem w' p q (F * 256) (fun _ => 0) ∧ Grows w w' ∧ w.heap.size ≤ p ∧ w.heap.size ≤ q ∧ q < p := by
  have hmk := run_make_u8 F h2
  go_enter Tryd.func54, Tryd.ntmps54
  go_wp2_with fail
  go_ret2
  have hb : Bts (w.alloc (Obj.cells (madeCells #[Value.int .u8 0] (F * 256)) 5)) w.heap.size (F * 256) (fun _ => 0) := Bts.made w _ _
  exact ⟨w.heap.size + 1, w.heap.size, rfl, ⟨⟨F * 256, Nat.le_refl _, by omega, Row.new_at _ _ _ (by simp)⟩, hb.grows ((Grows.refl _).alloc _), by omega, by omega⟩, ((Grows.refl _).alloc _).alloc _, by omega, Nat.le_refl _, by omega⟩
theorem lies_any {p q n : Nat} {B : Nat → Nat} {w : World} (h : RMem w p q n B) (A : Nat) (k : Int) (hk : 0 ≤ k) (hk2 : k ≤ 9223372036854775807) (hA : A < 18446744073709551616) :
    Calls Tryd.prog 106 #[.pointer (some ⟨p, 0, none⟩), .int .u64 A, .int .i64 k] w fun r w' => r = .returned (.bool (decide (k ≤ n ∧ (A : Int) ≤ n - k))) ∧ w' = w := by
  have hn := h.hn
  obtain ⟨c, h1, h2, h3⟩ := h.hd
  have c0 : w.cell? ⟨p, 0, none⟩ = some (.slice (some ⟨q, 0, none⟩) n c) := h3.cell 0
  clear h3 h
  by_cases hkn : k ≤ n
  · have e2 : IntKind.u64.wrap ((n : Int) - k) = (n : Int) - k := wrap_u64_small (by omega) (by omega)
    have d1 : decide (k ≤ (n : Int)) = true := decide_eq_true hkn
    by_cases hA2 : (A : Int) ≤ n - k
    · go_enter Tryd.func106, Tryd.ntmps106
      go_wp2_with fail
      go_ret
      exact ⟨by simp; omega, rfl⟩
    · go_enter Tryd.func106, Tryd.ntmps106
      go_wp2_with fail
      go_ret
      exact ⟨by simp; omega, rfl⟩
  · have d1 : decide (k ≤ (n : Int)) = false := decide_eq_false hkn
    go_enter Tryd.func106, Tryd.ntmps106
    go_wp2_with fail
    go_ret
    exact ⟨by simp [hkn], rfl⟩
theorem wrong_any {p q n : Nat} {B : Nat → Nat} {w : World} (h : RMem w p q n B) (A : Nat) (width : Int) (hA : A < 18446744073709551616) :
    Calls Tryd.prog 104 #[.pointer (some ⟨p, 0, none⟩), .int .u64 A, .int .i64 width] w fun r w' => r = .returned (.int .i64 (numE n A width)) ∧ w' = w := by
  cases hk : knownB width
  · have hE : numE n A width = 2 := by simp [numE, hk]
    have HE := Lib.hid hE
    obtain ⟨h1, h4, h8⟩ := knownB_false hk
    have e1 : (width != 1) = true := by simp [h1]
    have e4 : (width != 4) = true := by simp [h4]
    have e8 : (width != 8) = true := by simp [h8]
    clear hE h1 h4 h8 hk
    go_enter Tryd.func104, Tryd.ntmps104
    go_wp2_with fail
    go_ret
    exact ⟨by rw [HE.out]; rfl, rfl⟩
  · by_cases ha : (A : Int) % width = 0
    · have hli := fun hw hw2 => lies_any h A width hw hw2 hA
      have hE : numE n A width = if decide (width ≤ n ∧ (A : Int) ≤ n - width) = true then 0 else 12 := by
        have : ¬ width < 0 := by have := knownB_cases hk; omega
        simp [numE, hk, ha, partE, this]
      generalize decide (width ≤ n ∧ (A : Int) ≤ n - width) = D at *
      have HE := Lib.hid hE
      clear hE
      rcases knownB_cases hk with rfl | rfl | rfl
      all_goals
        clear hk
        have hli := hli (by omega) (by omega)
        cases D
        all_goals
          go_enter Tryd.func104, Tryd.ntmps104
          go_wp2_with fail
          refine hli.mono ?_
          rintro _ _ ⟨rfl, rfl⟩
          go_wp2_with fail
          go_ret
          exact ⟨by rw [HE.out]; rfl, rfl⟩
    · have hE : numE n A width = 11 := by simp [numE, hk, ha]
      have HE := Lib.hid hE
      clear hE
      rcases knownB_cases hk with rfl | rfl | rfl
      · omega
      all_goals
        clear hk
        have hb : ∀ m : Int, ¬ (A : Int) % m = 0 → ((A : Int) % m != 0) = true := fun m h => by simp [h]
        have hb := hb _ ha
        go_enter Tryd.func104, Tryd.ntmps104
        go_wp2_with fail
        go_ret
        exact ⟨by rw [HE.out]; rfl, rfl⟩
theorem rLoad_bad {p q n : Nat} {B : Nat → Nat} {w : World} (h : RMem w p q n B) (A : Nat) (width : Int) (hA : A < 18446744073709551616) (he : numE n A width ≠ 0) :
    Calls Tryd.prog 123 #[.pointer (some ⟨p, 0, none⟩), .int .u64 A, .int .i64 width] w fun r w' => r = .returned (.tuple #[.int .u64 0, .int .i64 (numE n A width)]) ∧ Grows w w' := by
  have hnum := wrong_any h A width hA
  generalize numE n A width = E at *
  have hb : (E != 0) = true := by simp [he]
  go_enter Tryd.func123, Tryd.ntmps123
  go_wp2_with fail
  refine hnum.mono ?_
  rintro _ _ ⟨rfl, rfl⟩
  go_wp2_with fail
  go_ret2
  exact ⟨rfl, Grows.refl _⟩
theorem numE_zero {n A W : Nat} (hk : knownB (W : Nat) = true) (ha : A % W = 0) (hn : A + W ≤ n) : numE n A (W : Nat) = 0 := by
  have h1 : ((A : Int) % (W : Int)) = 0 := by have := Int.natCast_emod A W; omega
  have h2 : ¬ (W : Int) < 0 := by omega
  simp [numE, hk, h1, partE, h2]
  omega
theorem rLoad_ok {p q n : Nat} {B : Nat → Nat} {w : World} (h : RMem w p q n B) (A W : Nat) (hk : knownB (W : Nat) = true) (ha : A % W = 0) (hn : A + W ≤ n) :
    Calls Tryd.prog 123 #[.pointer (some ⟨p, 0, none⟩), .int .u64 A, .int .i64 W] w fun r w' => r = .returned (.tuple #[.int .u64 (loadN (segB B A W)), .int .i64 0]) ∧ Grows w w' := by
  have hN := h.hn
  have hnum := wrong_any h A W (by omega)
  rw [numE_zero hk ha hn] at hnum
  obtain ⟨c, h1, h2, h3⟩ := h.hd
  have c0 : w.cell? ⟨p, 0, none⟩ = some (.slice (some ⟨q, 0, none⟩) n c) := h3.cell 0
  have hl := rload_yes q 0 n c A W (segB B A W) w h1 h2 hk hn (segB_length _ _ _) (by simpa using segB_bytes h.bts A W hn)
  generalize loadN (segB B A W) = V at *
  clear hk ha h h3
  go_enter Tryd.func123, Tryd.ntmps123
  go_wp2_with fail
  refine hnum.mono ?_
  rintro _ _ ⟨rfl, rfl⟩
  go_wp2_with fail
  refine hl.mono ?_
  rintro _ w2 ⟨rfl, hg2⟩
  go_wp2_with fail
  go_ret2
  exact ⟨rfl, hg2⟩
theorem rStore_bad {p q n : Nat} {B : Nat → Nat} {w : World} (h : RMem w p q n B) (A : Nat) (width v : Int) (hA : A < 18446744073709551616) (he : numE n A width ≠ 0) :
    Calls Tryd.prog 100 #[.pointer (some ⟨p, 0, none⟩), .int .u64 A, .int .i64 width, .int .u64 v] w fun r w' => r = .returned (.int .i64 (numE n A width)) ∧ Grows w w' := by
  have hnum := wrong_any h A width hA
  generalize numE n A width = E at *
  have hb : (E != 0) = true := by simp [he]
  go_enter Tryd.func100, Tryd.ntmps100
  go_wp2_with fail
  refine hnum.mono ?_
  rintro _ _ ⟨rfl, rfl⟩
  go_wp2_with fail
  go_ret
  exact ⟨rfl, Grows.refl _⟩
theorem rStore_ok {p q n : Nat} {B : Nat → Nat} {w : World} (h : RMem w p q n B) (A W V : Nat) (hk : knownB (W : Nat) = true) (ha : A % W = 0) (hn : A + W ≤ n) :
    Calls Tryd.prog 100 #[.pointer (some ⟨p, 0, none⟩), .int .u64 A, .int .i64 W, .int .u64 V] w fun r w' => r = .returned (.int .i64 0) ∧ RMem w' p q n (putB B A (leB V W)) ∧ Chg [q] w w' := by
  have hN := h.hn
  have hnum := wrong_any h A W (by omega)
  rw [numE_zero hk ha hn] at hnum
  have hl := rstore_yes V W w hk
  have hb := leB_lt V W
  have hlen := leB_length V W
  generalize leB V W = L at *
  have HB := Lib.hid hb
  have HLen := Lib.hid hlen
  clear hk ha hb hlen
  go_enter Tryd.func100, Tryd.ntmps100
  go_wp2_with fail
  refine hnum.mono ?_
  rintro _ _ ⟨rfl, hw⟩
  rw [hw]
  clear hw
  go_wp2_with fail
  refine hl.mono ?_
  rintro _ w2 ⟨b, c, he, hc1, hc2, hg, hb, hbl, hB⟩
  rw [HLen.out] at he hc1
  subst he
  have hM := h.grows hg
  have hbq : b ≠ q := by have := h.qlt; omega
  have HG := Lib.hid hg
  have HS := Lib.hid hB.2
  clear hg hl hnum hb hB h
  go_wp2_with fail
  go_loopw [11] (fun i wr => ∃ k : Nat, k ≤ W ∧ i = .int .i64 k ∧ RMem wr p q n (putB B A (L.take k)) ∧ Chg [q] w2 wr) (fun i _ => (W - intOf i).toNat)
  case atStart => exact ⟨0, by omega, rfl, by rw [List.take_zero, putB_nil]; exact hM, Chg.refl _ _⟩
  case round =>
    obtain ⟨k, hk, rfl, hMr, hCr⟩ := hrel
    by_cases hlt : k < W
    · have HX : Hid (L.getD k 0 < 256) := getD_lt HB.out k
      have HP : Hid (putB B A (L.take (k + 1)) = put1 (putB B A (L.take k)) (A + k) (L.getD k 0)) := by
        show _ = _
        rw [take_succ_getD L (by rw [HLen.out]; exact hlt), putB_snoc, List.length_take, HLen.out, Nat.min_eq_left hk]
      have HSk : Hid (w2.cell? ⟨b, k, none⟩ = some (.int .u8 (L.getD k 0 : Nat))) := by
        have := HS.out k (by rw [HLen.out]; exact hlt)
        rwa [Nat.zero_add] at this
      generalize L.getD k 0 = X at *
      generalize putB B A (L.take k) = C at *
      go_wp2_with fail
      obtain ⟨Z, hV⟩ : ∃ V, V = World.drew wr := ⟨_, rfl⟩
      have hZ : Grows wr Z := by rw [hV]; exact (Grows.refl _).drew
      refine wp_region_still_tail 13 (by kernel_rfl) (by kernel_rfl) ?_
      simp only [List.take_succ_cons, List.take_zero, List.drop_succ_cons, List.drop_zero]
      change wpStill _ _ (World.drew wr) _ _ _
      rw [← hV]
      have HZ := Lib.hid hV
      clear hV
      have hMz := hMr.grows hZ
      obtain ⟨cc, h1, h2, h3⟩ := hMz.hd
      have c0 : Z.cell? ⟨p, 0, none⟩ = some (.slice (some ⟨q, 0, none⟩) n cc) := h3.cell 0
      have c1 : Z.cell? ⟨q, A + k, none⟩ = some (.int .u8 (C (A + k) : Nat)) := hMz.bts.cell (by omega)
      have f1 := hMz.bts.frozen (A + k)
      have c2 : Z.cell? ⟨b, k, none⟩ = some (.int .u8 X) := by
        rw [hZ.cell (hCr.lt hbl), hCr.cell hbl (by simpa using hbq)]; exact HSk.out
      have i1 : A + k < n := by omega
      have i2 : (A : Int) + k < n := by omega
      have i3 : (0 : Int) ≤ A + k := by omega
      have i4 : IntKind.i64.wrap (A : Int) = A := by rw [IntKind.wrap_i64]; omega
      have i5 : IntKind.i64.wrap ((A : Int) + k) = A + k := by rw [IntKind.wrap_i64]; omega
      have i6 : ((A : Int) + k).toNat = A + k := by omega
      have HMz := Lib.hid hMz
      have HC := Lib.hid (hCr.grows hZ)
      clear hMz h3 hMr hCr hZ
      repeat still_step
      refine wpStill_nil ?_
      change wpList _ _ _ _ _ (World.drew wr)
      rw [← (HZ).out]
      go_wp2_with fail
      refine ⟨⟨k + 1, by omega, by simp, ?_, HC.out.setCell (Or.inl (by simp)) _ _⟩, by simp [intOf]; omega⟩
      rw [HP.out]
      exact HMz.out.upd ((Chg.refl _ _).setCell (Or.inl (by simp)) _ _) (HMz.out.bts.set1 i1 HX.out)
    · have : k = W := by omega
      subst this
      rw [List.take_of_length_le (by rw [HLen.out]; exact Nat.le_refl _)] at hMr
      go_wp2_with fail
      go_ret
      exact ⟨rfl, hMr, (Chg.of_grows HG.out).step hCr (fun k hk => Or.inl hk)⟩
end Go.Proofs.YtlchlklbjocliaaDoor
