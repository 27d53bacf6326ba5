/- What Unpack of the package entry, and of its reference, computes. -/
import Derived.Test.YtlchlklbjocliaaDoorEntR
namespace Go.Proofs.YtlchlklbjocliaaDoor
open Go Go.RowKit
set_option linter.unusedSimpArgs false
set_option linter.unusedVariables false
set_option maxRecDepth 100000
theorem row_setCell {w : World} {b i : Nat} {c : Array Value} {t : TypeId} (h : Row w b c t) (hi : i < c.size) (v : Value) : Row (w.setCell ⟨b, i, none⟩ v) b (c.set i v) t := by
  unfold Row at *
  show (w.heap.modify b _)[b]? = _
  rw [Array.getElem?_modify, if_pos rfl, h]
  simp [Array.setIfInBounds, hi]
def bitN (v : Nat) (k : Nat) : Bool := ((v / 2 ^ k % 2 : Nat) : Int) == 1
def upTo (v n : Nat) (k : Nat) : Array Value := #[.bool (decide (0 < k) && bitN v 0), .bool (decide (1 < k) && bitN v 1), .bool (decide (2 < k) && bitN v 2), .bool (decide (3 < k) && bitN v 3), .bool (decide (4 < k) && bitN v 4), .bool (decide (5 < k) && bitN v 5), .bool (decide (6 < k) && bitN v 6), .int .i64 n]
theorem row_setOther {w : World} {b : Nat} {c : Array Value} {t : TypeId} (h : Row w b c t) {p : Addr} (hp : p.block ≠ b) (v : Value) : Row (w.setCell p v) b c t := by
  unfold Row at *
  show (w.heap.modify p.block _)[b]? = _
  rw [Array.getElem?_modify, if_neg hp, h]
theorem upTo_next {w : World} {b v n k : Nat} {t : TypeId} {x : Bool} (h : Row w b (upTo v n k) t) (hk : k < 7) (hx : x = bitN v k) : Row (w.setCell ⟨b, k, none⟩ (.bool x)) b (upTo v n (k + 1)) t := by
  have hs : k < (upTo v n k).size := by simp [upTo]; omega
  have := row_setCell h hs (.bool x)
  have e : (upTo v n k).set k (.bool x) hs = upTo v n (k + 1) := by
    subst hx
    have : k = 0 ∨ k = 1 ∨ k = 2 ∨ k = 3 ∨ k = 4 ∨ k = 5 ∨ k = 6 := by omega
    rcases this with rfl | rfl | rfl | rfl | rfl | rfl | rfl <;> simp [upTo]
  rw [e] at this
  exact this
theorem upTo7 (v n : Nat) : upTo v n 7 = #[.bool (bitN v 0), .bool (bitN v 1), .bool (bitN v 2), .bool (bitN v 3), .bool (bitN v 4), .bool (bitN v 5), .bool (bitN v 6), .int .i64 n] := by simp [upTo]
def zeroE : Array Value := #[.bool false, .bool false, .bool false, .bool false, .bool false, .bool false, .bool false, .int .i64 0]
/-- A struct's eight cells written one by one. -/
def World.fill8 (w : World) (b : Nat) (x0 x1 x2 x3 x4 x5 x6 : Bool) (x7 : Int) : World :=
  (((((((w.setCell ⟨b, 0, none⟩ (.bool x0)).setCell ⟨b, 1, none⟩ (.bool x1)).setCell ⟨b, 2, none⟩ (.bool x2)).setCell ⟨b, 3, none⟩ (.bool x3)).setCell ⟨b, 4, none⟩ (.bool x4)).setCell ⟨b, 5, none⟩ (.bool x5)).setCell ⟨b, 6, none⟩ (.bool x6)).setCell ⟨b, 7, none⟩ (.int .i64 x7)
theorem row_fill8 {w : World} {b : Nat} {t : TypeId} (h : Row w b zeroE t) (x0 x1 x2 x3 x4 x5 x6 : Bool) (x7 : Int) :
    Row (World.fill8 w b x0 x1 x2 x3 x4 x5 x6 x7) b #[.bool x0, .bool x1, .bool x2, .bool x3, .bool x4, .bool x5, .bool x6, .int .i64 x7] t := by
  have h0 := row_setCell h (i := 0) (by decide) (.bool x0)
  have h1 := row_setCell h0 (i := 1) (by simp [zeroE]) (.bool x1)
  have h2 := row_setCell h1 (i := 2) (by simp [zeroE]) (.bool x2)
  have h3 := row_setCell h2 (i := 3) (by simp [zeroE]) (.bool x3)
  have h4 := row_setCell h3 (i := 4) (by simp [zeroE]) (.bool x4)
  have h5 := row_setCell h4 (i := 5) (by simp [zeroE]) (.bool x5)
  have h6 := row_setCell h5 (i := 6) (by simp [zeroE]) (.bool x6)
  have h7 := row_setCell h6 (i := 7) (by simp [zeroE]) (.int .i64 x7)
  simpa [zeroE, World.fill8] using h7
theorem grows_fill8 {a w : World} (h : Grows a w) {b : Nat} (hb : a.heap.size ≤ b) (x0 x1 x2 x3 x4 x5 x6 : Bool) (x7 : Int) : Grows a (World.fill8 w b x0 x1 x2 x3 x4 x5 x6 x7) :=
  (((((((h.setCell hb _).setCell hb _).setCell hb _).setCell hb _).setCell hb _).setCell hb _).setCell hb _).setCell hb _
def goodB (v : Nat) : Bool := decide (packE (bitN v 0) (bitN v 1) (bitN v 2) (bitN v 3) (bitN v 4) (bitN v 5) (bitN v 6) ((v / 1024 % 65536 : Nat) : Int) = 0) && decide (packZ (bitN v 0) (bitN v 1) (bitN v 2) (bitN v 3) (bitN v 4) (bitN v 5) (bitN v 6) ((v / 1024 % 65536 : Nat) : Int) = v)
def unpA (v : Nat) : Array Value := if v % 2 = 1 ∧ goodB v = true then upTo v (v / 1024 % 65536) 7 else zeroE
def unpE (v : Nat) : Int := if v % 2 = 0 ∨ goodB v = true then 0 else 10
theorem bit_and (v : Nat) (k p : Nat) (hp : p = 2 ^ k) (hv : v < 18446744073709551616) : bits .and .u64 ((v : Int) / (p : Int)) 1 = ((v / 2 ^ k % 2 : Nat) : Int) := by
  subst hp
  have h1 : v / 2 ^ k ≤ v := Nat.div_le_self _ _
  have := and_mask_u64 (x := ((v / 2 ^ k : Nat) : Int)) (n := 1) (Int.natCast_nonneg _) (Int.lt_of_le_of_lt (Int.ofNat_le.mpr h1) (by omega)) (by omega)
  rw [show (2 : Int) ^ 1 - 1 = 1 from rfl, show (2 : Int) ^ 1 = 2 from rfl] at this
  rw [← Int.natCast_ediv, this]
  exact (Int.natCast_emod (v / 2 ^ k) 2).symm
set_option maxHeartbeats 2000000 in
theorem unpack_any (v : Nat) (hv : v < 18446744073709551616) (w : World) (hT : Places w) :
    Calls Tryd.prog 82 #[.int .u64 v] w fun r w' => r = .returned (.tuple #[.agg (unpA v), .int .i64 (unpE v)]) ∧ Grows w w' := by
  have HV := Lib.hid hv
  by_cases h2 : v % 2 = 0
  · have e0 : bits .and .u64 (v : Int) 1 = 0 := by have := bit_and v 0 1 rfl hv; simp at this; rw [this]; omega
    clear hv
    go_enter Tryd.func82, Tryd.ntmps82
    go_wp2_with fail
    exact bodyPost_ret (v := .tuple #[.agg zeroE, .int .i64 0]) (by simp [results, Tryd.results82, go_sem, zeroE]) rfl ⟨by simp [unpA, unpE, h2], (Grows.refl _).alloc _⟩
  · have e0 : bits .and .u64 (v : Int) 1 = 1 := by have := bit_and v 0 1 rfl hv; simp at this; rw [this]; omega
    have ef : bits .and .u64 ((v : Int) / 1024) 65535 = ((v / 1024 % 65536 : Nat) : Int) := by
      have := and_mask_u64 (x := ((v / 1024 : Nat) : Int)) (n := 16) (by omega) (by omega) (by omega)
      rw [show (2 : Int) ^ 16 - 1 = 65535 from rfl, show (2 : Int) ^ 16 = 65536 from rfl] at this
      rw [show (v : Int) / 1024 = ((v / 1024 : Nat) : Int) by omega, this]; omega
    have en : wrap64 (bits .and .u64 ((v : Int) / 1024) 65535) = ((v / 1024 % 65536 : Nat) : Int) := by rw [ef]; exact wrap64_small (by omega) (by omega)
    have hn65 : v / 1024 % 65536 < 65536 := Nat.mod_lt _ (by omega)
    obtain ⟨n, hn⟩ : ∃ n, n = v / 1024 % 65536 := ⟨_, rfl⟩
    rw [← hn] at en hn65
    have HN := Lib.hid hn
    have H65 := Lib.hid hn65
    have EN := Lib.hid en
    clear ef en hv hn hn65
    go_enter Tryd.func82, Tryd.ntmps82
    go_wp2_with fail
    refine (flags_any _ _).mono ?_
    rintro _ w2 ⟨rfl, g2, rfl⟩
    go_wp2_with fail
    rw [EN.out]
    obtain ⟨W, hW⟩ : ∃ W, W = ((w.alloc (Obj.cells zeroE 111)).alloc (Obj.cells #[.bool false, .bool false, .bool false, .bool false, .bool false, .bool false, .bool false, .int .i64 n] 111)).grow g2 := ⟨_, rfl⟩
    have hW2 := hW
    unfold zeroE at hW2
    rw [← hW2]
    clear hW2
    have hg : Grows w W := by rw [hW]; exact (((Grows.refl _).alloc _).alloc _).grow _
    have hZ : Row W w.heap.size zeroE 111 := by
      rw [hW]; exact (Row.new_at _ _ _ rfl).grows (((Grows.refl _).alloc _).grow _)
    have hR : Row W (w.heap.size + 1) (upTo v n 0) 111 := by
      rw [hW]; exact (Row.new_at _ _ _ (by simp)).grows ((Grows.refl _).grow _)
    clear hW
    go_loopw [19] (fun i wr => (∃ (k : Nat) (I : Int), k ≤ 7 ∧ I = k ∧ i = .int .i64 I ∧ Row wr (w.heap.size + 1) (upTo v n k) 111) ∧ Row wr w.heap.size zeroE 111 ∧ Grows w wr) (fun i _ => (7 - intOf i).toNat)
    case atStart => exact ⟨⟨0, 0, by omega, rfl, rfl, hR⟩, hZ, hg⟩
    case round =>
      obtain ⟨⟨k, I, hk, hI, rfl, hR'⟩, hZ', hg'⟩ := hrel
      clear hR hZ hg
      obtain ⟨hTs, hP⟩ := hT.grows hg'
      by_cases hlt : k < 7
      · have p0 : wr.cell? ⟨0, k, none⟩ = some (.int .i64 k) := by rw [hP, placeAt hlt]
        rw [← hI] at p0
        have c0 := hR'.cell k
        simp only [upTo] at c0
        have f0 := hR'.frozen k
        have s0 := hR'.lt
        have HR := Lib.hid hR'
        have HZ := Lib.hid hZ'
        clear hP hR' hZ' hT
        have : k = 0 ∨ k = 1 ∨ k = 2 ∨ k = 3 ∨ k = 4 ∨ k = 5 ∨ k = 6 := by omega
        rcases this with rfl | rfl | rfl | rfl | rfl | rfl | rfl
        · simp at hI
          subst hI
          have i0 : ∀ w', (Instr.index 167 (.agg #[.pointer (some ⟨w.heap.size + 1, 0, none⟩), .pointer (some ⟨w.heap.size + 1, 1, none⟩), .pointer (some ⟨w.heap.size + 1, 2, none⟩), .pointer (some ⟨w.heap.size + 1, 3, none⟩), .pointer (some ⟨w.heap.size + 1, 4, none⟩), .pointer (some ⟨w.heap.size + 1, 5, none⟩), .pointer (some ⟨w.heap.size + 1, 6, none⟩)]) (.int .i64 0)).run Tryd.prog w' = .ok (.pointer (some ⟨w.heap.size + 1, 0, none⟩)) w' := fun _ => by kernel_rfl
          obtain ⟨X, e1, hX⟩ : ∃ X : Int, bits .and .u64 (v : Int) 1 = X ∧ Hid (X = ((v / 2 ^ 0 % 2 : Nat) : Int)) := ⟨_, (by have := bit_and v 0 1 rfl HV.out; simp at this; simpa using this), Lib.hid rfl⟩
          go_wp2_with fail
          exact ⟨⟨⟨1, 1, by omega, rfl, rfl, upTo_next HR.out hlt (by have := h2; simp [bitN]; omega)⟩, row_setOther HZ.out (by simp) _, hg'.setCell (by simp) _⟩, by decide⟩
        · simp at hI
          subst hI
          have i0 : ∀ w', (Instr.index 167 (.agg #[.pointer (some ⟨w.heap.size + 1, 0, none⟩), .pointer (some ⟨w.heap.size + 1, 1, none⟩), .pointer (some ⟨w.heap.size + 1, 2, none⟩), .pointer (some ⟨w.heap.size + 1, 3, none⟩), .pointer (some ⟨w.heap.size + 1, 4, none⟩), .pointer (some ⟨w.heap.size + 1, 5, none⟩), .pointer (some ⟨w.heap.size + 1, 6, none⟩)]) (.int .i64 1)).run Tryd.prog w' = .ok (.pointer (some ⟨w.heap.size + 1, 1, none⟩)) w' := fun _ => by kernel_rfl
          obtain ⟨X, e1, hX⟩ : ∃ X : Int, bits .and .u64 ((v : Int) / 2) 1 = X ∧ Hid (X = ((v / 2 ^ 1 % 2 : Nat) : Int)) := ⟨_, (bit_and v 1 2 rfl HV.out), Lib.hid rfl⟩
          go_wp2_with fail
          exact ⟨⟨⟨2, 2, by omega, rfl, rfl, upTo_next HR.out hlt (by rw [hX.out]; rfl)⟩, row_setOther HZ.out (by simp) _, hg'.setCell (by simp) _⟩, by decide⟩
        · simp at hI
          subst hI
          have i0 : ∀ w', (Instr.index 167 (.agg #[.pointer (some ⟨w.heap.size + 1, 0, none⟩), .pointer (some ⟨w.heap.size + 1, 1, none⟩), .pointer (some ⟨w.heap.size + 1, 2, none⟩), .pointer (some ⟨w.heap.size + 1, 3, none⟩), .pointer (some ⟨w.heap.size + 1, 4, none⟩), .pointer (some ⟨w.heap.size + 1, 5, none⟩), .pointer (some ⟨w.heap.size + 1, 6, none⟩)]) (.int .i64 2)).run Tryd.prog w' = .ok (.pointer (some ⟨w.heap.size + 1, 2, none⟩)) w' := fun _ => by kernel_rfl
          obtain ⟨X, e1, hX⟩ : ∃ X : Int, bits .and .u64 ((v : Int) / 4) 1 = X ∧ Hid (X = ((v / 2 ^ 2 % 2 : Nat) : Int)) := ⟨_, (bit_and v 2 4 rfl HV.out), Lib.hid rfl⟩
          go_wp2_with fail
          exact ⟨⟨⟨3, 3, by omega, rfl, rfl, upTo_next HR.out hlt (by rw [hX.out]; rfl)⟩, row_setOther HZ.out (by simp) _, hg'.setCell (by simp) _⟩, by decide⟩
        · simp at hI
          subst hI
          have i0 : ∀ w', (Instr.index 167 (.agg #[.pointer (some ⟨w.heap.size + 1, 0, none⟩), .pointer (some ⟨w.heap.size + 1, 1, none⟩), .pointer (some ⟨w.heap.size + 1, 2, none⟩), .pointer (some ⟨w.heap.size + 1, 3, none⟩), .pointer (some ⟨w.heap.size + 1, 4, none⟩), .pointer (some ⟨w.heap.size + 1, 5, none⟩), .pointer (some ⟨w.heap.size + 1, 6, none⟩)]) (.int .i64 3)).run Tryd.prog w' = .ok (.pointer (some ⟨w.heap.size + 1, 3, none⟩)) w' := fun _ => by kernel_rfl
          obtain ⟨X, e1, hX⟩ : ∃ X : Int, bits .and .u64 ((v : Int) / 8) 1 = X ∧ Hid (X = ((v / 2 ^ 3 % 2 : Nat) : Int)) := ⟨_, (bit_and v 3 8 rfl HV.out), Lib.hid rfl⟩
          go_wp2_with fail
          exact ⟨⟨⟨4, 4, by omega, rfl, rfl, upTo_next HR.out hlt (by rw [hX.out]; rfl)⟩, row_setOther HZ.out (by simp) _, hg'.setCell (by simp) _⟩, by decide⟩
        · simp at hI
          subst hI
          have i0 : ∀ w', (Instr.index 167 (.agg #[.pointer (some ⟨w.heap.size + 1, 0, none⟩), .pointer (some ⟨w.heap.size + 1, 1, none⟩), .pointer (some ⟨w.heap.size + 1, 2, none⟩), .pointer (some ⟨w.heap.size + 1, 3, none⟩), .pointer (some ⟨w.heap.size + 1, 4, none⟩), .pointer (some ⟨w.heap.size + 1, 5, none⟩), .pointer (some ⟨w.heap.size + 1, 6, none⟩)]) (.int .i64 4)).run Tryd.prog w' = .ok (.pointer (some ⟨w.heap.size + 1, 4, none⟩)) w' := fun _ => by kernel_rfl
          obtain ⟨X, e1, hX⟩ : ∃ X : Int, bits .and .u64 ((v : Int) / 16) 1 = X ∧ Hid (X = ((v / 2 ^ 4 % 2 : Nat) : Int)) := ⟨_, (bit_and v 4 16 rfl HV.out), Lib.hid rfl⟩
          go_wp2_with fail
          exact ⟨⟨⟨5, 5, by omega, rfl, rfl, upTo_next HR.out hlt (by rw [hX.out]; rfl)⟩, row_setOther HZ.out (by simp) _, hg'.setCell (by simp) _⟩, by decide⟩
        · simp at hI
          subst hI
          have i0 : ∀ w', (Instr.index 167 (.agg #[.pointer (some ⟨w.heap.size + 1, 0, none⟩), .pointer (some ⟨w.heap.size + 1, 1, none⟩), .pointer (some ⟨w.heap.size + 1, 2, none⟩), .pointer (some ⟨w.heap.size + 1, 3, none⟩), .pointer (some ⟨w.heap.size + 1, 4, none⟩), .pointer (some ⟨w.heap.size + 1, 5, none⟩), .pointer (some ⟨w.heap.size + 1, 6, none⟩)]) (.int .i64 5)).run Tryd.prog w' = .ok (.pointer (some ⟨w.heap.size + 1, 5, none⟩)) w' := fun _ => by kernel_rfl
          obtain ⟨X, e1, hX⟩ : ∃ X : Int, bits .and .u64 ((v : Int) / 32) 1 = X ∧ Hid (X = ((v / 2 ^ 5 % 2 : Nat) : Int)) := ⟨_, (bit_and v 5 32 rfl HV.out), Lib.hid rfl⟩
          go_wp2_with fail
          exact ⟨⟨⟨6, 6, by omega, rfl, rfl, upTo_next HR.out hlt (by rw [hX.out]; rfl)⟩, row_setOther HZ.out (by simp) _, hg'.setCell (by simp) _⟩, by decide⟩
        · simp at hI
          subst hI
          have i0 : ∀ w', (Instr.index 167 (.agg #[.pointer (some ⟨w.heap.size + 1, 0, none⟩), .pointer (some ⟨w.heap.size + 1, 1, none⟩), .pointer (some ⟨w.heap.size + 1, 2, none⟩), .pointer (some ⟨w.heap.size + 1, 3, none⟩), .pointer (some ⟨w.heap.size + 1, 4, none⟩), .pointer (some ⟨w.heap.size + 1, 5, none⟩), .pointer (some ⟨w.heap.size + 1, 6, none⟩)]) (.int .i64 6)).run Tryd.prog w' = .ok (.pointer (some ⟨w.heap.size + 1, 6, none⟩)) w' := fun _ => by kernel_rfl
          obtain ⟨X, e1, hX⟩ : ∃ X : Int, bits .and .u64 ((v : Int) / 64) 1 = X ∧ Hid (X = ((v / 2 ^ 6 % 2 : Nat) : Int)) := ⟨_, (bit_and v 6 64 rfl HV.out), Lib.hid rfl⟩
          go_wp2_with fail
          exact ⟨⟨⟨7, 7, by omega, rfl, rfl, upTo_next HR.out hlt (by rw [hX.out]; rfl)⟩, row_setOther HZ.out (by simp) _, hg'.setCell (by simp) _⟩, by decide⟩
      · have : k = 7 := by omega
        subst this
        simp at hI
        subst hI
        rw [upTo7] at hR'
        have hc := hR'.cell
        have s0 := hR'.lt
        have zc := hZ'.cell
        have zf := hZ'.frozen
        have z0 := hZ'.lt
        unfold zeroE at zc
        clear hR' hP hTs
        go_wp2_with fail
        refine (pack_any _ _ _ _ _ _ _ _ _ (hT.grows hg')).mono ?_
        rintro _ w3 ⟨rfl, g3, rfl⟩
        obtain ⟨PE, hPE⟩ : ∃ x, x = packE (bitN v 0) (bitN v 1) (bitN v 2) (bitN v 3) (bitN v 4) (bitN v 5) (bitN v 6) n := ⟨_, rfl⟩
        obtain ⟨PZ, hPZ⟩ : ∃ x, x = packZ (bitN v 0) (bitN v 1) (bitN v 2) (bitN v 3) (bitN v 4) (bitN v 5) (bitN v 6) n := ⟨_, rfl⟩
        rw [← hPE, ← hPZ]
        have hG : goodB v = (decide (PE = 0) && decide (PZ = v)) := by unfold goodB; rw [hPE, hPZ, HN.out]
        have HPE := Lib.hid hPE
        have HPZ := Lib.hid hPZ
        have HG := Lib.hid hG
        clear hPE hPZ hG
        by_cases h3 : PE = 0
        · by_cases h4 : PZ = v
          · have hu : unpA v = #[.bool (bitN v 0), .bool (bitN v 1), .bool (bitN v 2), .bool (bitN v 3), .bool (bitN v 4), .bool (bitN v 5), .bool (bitN v 6), .int .i64 n] ∧ unpE v = 0 := by
              have hG : goodB v = true := by rw [HG.out, h3, h4]; simp
              constructor
              · unfold unpA; rw [if_pos ⟨by omega, hG⟩, upTo7, HN.out]
              · unfold unpE; rw [if_pos (Or.inr hG)]
            have HU := Lib.hid hu
            clear hu
            go_wp2_with fail
            have hF := row_fill8 (hZ'.grows ((Grows.refl _).grow g3)) (bitN v 0) (bitN v 1) (bitN v 2) (bitN v 3) (bitN v 4) (bitN v 5) (bitN v 6) n
            have hGF := grows_fill8 ((hg').grow g3) (Nat.le_refl w.heap.size) (bitN v 0) (bitN v 1) (bitN v 2) (bitN v 3) (bitN v 4) (bitN v 5) (bitN v 6) n
            unfold World.fill8 at hF hGF
            have hcF := hF.cell
            exact bodyPost_ret (v := .tuple #[.agg #[.bool (bitN v 0), .bool (bitN v 1), .bool (bitN v 2), .bool (bitN v 3), .bool (bitN v 4), .bool (bitN v 5), .bool (bitN v 6), .int .i64 n], .int .i64 0]) (by simp [results, Tryd.results82, go_sem, hcF]) rfl ⟨by rw [HU.out.1, HU.out.2] <;> first | rfl | (unfold zeroE; rfl), hGF⟩
          · have hu : unpA v = zeroE ∧ unpE v = 10 := by
              have hG : goodB v = false := by rw [HG.out]; simp [*]
              constructor
              · unfold unpA; rw [if_neg (by simp [hG])]
              · unfold unpE; rw [if_neg (by simp [hG]; omega)]
            have HU := Lib.hid hu
            clear hu
            go_wp2_with fail
            have hF := row_fill8 (hZ'.grows ((Grows.refl _).grow g3)) false false false false false false false 0
            have hGF := grows_fill8 ((hg').grow g3) (Nat.le_refl w.heap.size) false false false false false false false 0
            unfold World.fill8 at hF hGF
            have hcF := hF.cell
            exact bodyPost_ret (v := .tuple #[.agg #[.bool false, .bool false, .bool false, .bool false, .bool false, .bool false, .bool false, .int .i64 0], .int .i64 10]) (by simp [results, Tryd.results82, go_sem, hcF]) rfl ⟨by rw [HU.out.1, HU.out.2] <;> first | rfl | (unfold zeroE; rfl), hGF⟩
        · have hu : unpA v = zeroE ∧ unpE v = 10 := by
            have hG : goodB v = false := by rw [HG.out]; simp [*]
            constructor
            · unfold unpA; rw [if_neg (by simp [hG])]
            · unfold unpE; rw [if_neg (by simp [hG]; omega)]
          have HU := Lib.hid hu
          clear hu
          go_wp2_with fail
          have hF := row_fill8 (hZ'.grows ((Grows.refl _).grow g3)) false false false false false false false 0
          have hGF := grows_fill8 ((hg').grow g3) (Nat.le_refl w.heap.size) false false false false false false false 0
          unfold World.fill8 at hF hGF
          have hcF := hF.cell
          exact bodyPost_ret (v := .tuple #[.agg #[.bool false, .bool false, .bool false, .bool false, .bool false, .bool false, .bool false, .int .i64 0], .int .i64 10]) (by simp [results, Tryd.results82, go_sem, hcF]) rfl ⟨by rw [HU.out.1, HU.out.2] <;> first | rfl | (unfold zeroE; rfl), hGF⟩
end Go.Proofs.YtlchlklbjocliaaDoor
