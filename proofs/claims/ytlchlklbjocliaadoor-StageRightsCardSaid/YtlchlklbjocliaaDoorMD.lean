/- Texts of one kind, laid together. -/
import Derived.Test.YtlchlklbjocliaaDoorProg
import Derived.Test.YtlchlklbjocliaaDoorMA
import Derived.OpenShut
import Derived.Lib.Hide
import Derived.StillTailTactics
import Derived.Test.YtlchlklbjocliaaDoorMB
import Derived.BigRegion
/- What the functions of the package entry do that the laws of layer 5 reach: Leaf, Allows. -/
namespace Go.Proofs.YtlchlklbjocliaaDoor
open Go Go.RowKit
set_option linter.unusedSimpArgs false
set_option linter.unusedVariables false
set_option maxRecDepth 100000
def ok3 (b c d : Bool) (k : Int) : Bool := if k == 0 then d else if k == 1 then b else if k == 2 then c else false
def allowsB (a b c d e : Bool) (k : Int) (u : Bool) : Bool := a && (b || d) && (e == u) && ok3 b c d k
theorem leaf_any (a b c d e f g : Bool) (n : Int) (w : World) :
    Calls Tryd.prog 72 #[.agg #[.bool a, .bool b, .bool c, .bool d, .bool e, .bool f, .bool g, .int .i64 n]] w fun r w' => r = .returned (.bool (a && (b || d))) ∧ Grows w w' := by
  go_enter Tryd.func72, Tryd.ntmps72
  cases a <;> cases b <;> go_wp2 <;> (go_ret; exact ⟨rfl, (Grows.refl _).alloc _⟩)

theorem allows_any (a b c d e f g : Bool) (n : Int) (k : Int) (u : Bool) (w : World) :
    Calls Tryd.prog 73 #[.agg #[.bool a, .bool b, .bool c, .bool d, .bool e, .bool f, .bool g, .int .i64 n], .int .i64 k, .bool u] w
     fun r w' => r = .returned (.bool (allowsB a b c d e k u)) ∧ Grows w w' := by
  go_enter Tryd.func73, Tryd.ntmps73
  go_wp2_with fail
  refine (leaf_any _ _ _ _ _ _ _ _ _).mono ?_
  rintro _ w1 ⟨rfl, g1, rfl⟩
  cases hl : (a && (b || d))
  · go_wp2
    go_ret
    exact ⟨by simp [allowsB, hl], ((Grows.refl _).alloc _).grow _⟩
  · cases he : (e == u)
    · have he' : (e != u) = true := by simp [bne, he]
      go_wp2
      go_ret
      exact ⟨by simp [allowsB, hl, he], ((Grows.refl _).alloc _).grow _⟩
    · have he' : (e != u) = false := by simp [bne, he]
      go_wp2
      all_goals
        go_ret
        refine ⟨?_, ((Grows.refl _).alloc _).grow _⟩
        simp [allowsB, ok3, *]
end Go.Proofs.YtlchlklbjocliaaDoor

/- What Pack, Unpack, Split and Join of the package entry, and of its reference, compute. -/
namespace Go.Proofs.YtlchlklbjocliaaDoor
open Go Go.RowKit
set_option linter.unusedSimpArgs false
set_option linter.unusedVariables false
set_option maxRecDepth 100000
theorem ite_okb {p : Prop} [Decidable p] (x : Bool) (w : World) : (if p then Result.ok (Value.bool x) w else Result.ok (Value.bool false) w) = Result.ok (Value.bool (decide p && x)) w := by
  by_cases h : p <;> simp [h]
theorem eq_entry (a b c d e f g a' b' c' d' e' f' g' : Bool) (n n' : Int) (w : World) :
   (binOp .eql 111 (.agg #[.bool a, .bool b, .bool c, .bool d, .bool e, .bool f, .bool g, .int .i64 n]) (.agg #[.bool a', .bool b', .bool c', .bool d', .bool e', .bool f', .bool g', .int .i64 n'])).run Tryd.prog w =
   .ok (.bool (a == a' && (b == b' && (c == c' && (d == d' && (e == e' && (f == f' && (g == g' && n == n')))))))) w := by
  simp [go_sem, ite_okb]
  rfl
theorem eq_rentry (a b c d e f g a' b' c' d' e' f' g' : Bool) (n n' : Int) (w : World) :
   (binOp .eql 173 (.agg #[.bool a, .bool b, .bool c, .bool d, .bool e, .bool f, .bool g, .int .i64 n]) (.agg #[.bool a', .bool b', .bool c', .bool d', .bool e', .bool f', .bool g', .int .i64 n'])).run Tryd.prog w =
   .ok (.bool (a == a' && (b == b' && (c == c' && (d == d' && (e == e' && (f == f' && (g == g' && n == n')))))))) w := by
  simp [go_sem, ite_okb]
  rfl
/-- May an entry be? -/
def rightB (a b c d e f g : Bool) (n : Int) : Bool :=
  if a then decide (0 ≤ n) && decide (n < 65536) && ((!b && !c && !d && !e && !f && !g) || ((b || d) && (b || !c)))
  else !b && (!c && (!d && (!e && (!f && (!g && n == 0)))))
set_option maxHeartbeats 1000000 in
theorem right_any (a b c d e f g : Bool) (n : Int) (w : World) :
    Calls Tryd.prog 92 #[.agg #[.bool a, .bool b, .bool c, .bool d, .bool e, .bool f, .bool g, .int .i64 n]] w fun r w' => r = .returned (.bool (rightB a b c d e f g n)) ∧ Grows w w' := by
  have he := eq_entry
  cases a
  · go_enter Tryd.func92, Tryd.ntmps92
    go_wp2_with fail
    go_ret
    exact ⟨by simp [rightB], ((Grows.refl _).alloc _).alloc _⟩
  · by_cases h0 : 0 ≤ n ∧ n < 65536
    · obtain ⟨h0, h1⟩ := h0
      have hd0 : decide (0 ≤ n) = true := decide_eq_true h0
      have hd1 : decide (n < 65536) = true := decide_eq_true h1
      cases b
      · cases d
        · cases hz : (!c && (!e && (!f && !g)))
          · have hz' : rightB true false c false e f g n = false := by
              rw [← hz]; unfold rightB; rw [hd0, hd1]; clear he hz hd0 hd1; cases c <;> cases e <;> cases f <;> cases g <;> rfl
            rw [hz']
            clear hz' hd0 hd1
            go_enter Tryd.func92, Tryd.ntmps92
            go_wp2_with fail
            refine (leaf_any _ _ _ _ _ _ _ _ _).mono ?_
            rintro _ w1 ⟨rfl, g1, rfl⟩
            go_wp2_with fail
            go_ret
            exact ⟨by simp, (((Grows.refl _).alloc _).alloc _).grow _⟩
          · have hz' : rightB true false c false e f g n = true := by
              rw [← hz]; unfold rightB; rw [hd0, hd1]; clear he hz hd0 hd1; cases c <;> cases e <;> cases f <;> cases g <;> rfl
            rw [hz']
            clear hz' hd0 hd1
            go_enter Tryd.func92, Tryd.ntmps92
            go_wp2_with fail
            go_ret
            exact ⟨by simp, ((Grows.refl _).alloc _).alloc _⟩
        · have hz' : rightB true false c true e f g n = !c := by simp [rightB, hd0, hd1]
          rw [hz']
          clear hz' hd0 hd1
          cases c
          all_goals
            go_enter Tryd.func92, Tryd.ntmps92
            go_wp2_with fail
            refine (leaf_any _ _ _ _ _ _ _ _ _).mono ?_
            rintro _ w1 ⟨rfl, g1, rfl⟩
            go_wp2_with fail
            go_ret
            exact ⟨by simp, (((Grows.refl _).alloc _).alloc _).grow _⟩
      · have hz' : rightB true true c d e f g n = true := by simp [rightB, hd0, hd1]
        rw [hz']
        clear hz' hd0 hd1
        go_enter Tryd.func92, Tryd.ntmps92
        go_wp2_with fail
        refine (leaf_any _ _ _ _ _ _ _ _ _).mono ?_
        rintro _ w1 ⟨rfl, g1, rfl⟩
        go_wp2_with fail
        go_ret
        exact ⟨by simp, (((Grows.refl _).alloc _).alloc _).grow _⟩
    · have hz' : rightB true b c d e f g n = false := by
        have : (decide (0 ≤ n) && decide (n < 65536)) = false := by simp; omega
        simp [rightB, this]
      rw [hz']
      clear hz'
      by_cases h2 : n < 0
      · go_enter Tryd.func92, Tryd.ntmps92
        go_wp2_with fail
        go_ret
        exact ⟨by simp, ((Grows.refl _).alloc _).alloc _⟩
      · have h3 : 65536 ≤ n := by omega
        go_enter Tryd.func92, Tryd.ntmps92
        go_wp2_with fail
        go_ret
        exact ⟨by simp, ((Grows.refl _).alloc _).alloc _⟩
def bit1 (b : Bool) : Nat := if b then 1 else 0
def flagsN (a b c d e f g : Bool) : Nat := bit1 a + 2 * bit1 b + 4 * bit1 c + 8 * bit1 d + 16 * bit1 e + 32 * bit1 f + 64 * bit1 g
def packZ (a b c d e f g : Bool) (n : Int) : Int := if rightB a b c d e f g n then n * 1024 + flagsN a b c d e f g else 0
def packE (a b c d e f g : Bool) (n : Int) : Int := if rightB a b c d e f g n then 0 else 10
theorem rightB_frame {a b c d e f g : Bool} {n : Int} (h : rightB a b c d e f g n = true) : 0 ≤ n ∧ n < 65536 := by
  unfold rightB at h
  cases a
  · simp at h; omega
  · simp at h; omega
theorem flags_any (b : Nat) (w : World) :
    Calls Tryd.prog 93 #[.pointer (some ⟨b, 0, none⟩)] w fun r w' => r = .returned (.agg #[.pointer (some ⟨b, 0, none⟩), .pointer (some ⟨b, 1, none⟩), .pointer (some ⟨b, 2, none⟩), .pointer (some ⟨b, 3, none⟩), .pointer (some ⟨b, 4, none⟩), .pointer (some ⟨b, 5, none⟩), .pointer (some ⟨b, 6, none⟩)]) ∧ Grows w w' := by
  go_enter Tryd.func93, Tryd.ntmps93
  go_wp2_with fail
  go_still_tail 22, (by kernel_rfl)
  change wpList _ _ _ _ _ (World.drew (w.alloc _))
  go_wp2_with fail
  exact bodyPost_ret (v := .agg #[.pointer (some ⟨b, 0, none⟩), .pointer (some ⟨b, 1, none⟩), .pointer (some ⟨b, 2, none⟩), .pointer (some ⟨b, 3, none⟩), .pointer (some ⟨b, 4, none⟩), .pointer (some ⟨b, 5, none⟩), .pointer (some ⟨b, 6, none⟩)]) (by simp [results, Tryd.results93, go_sem]) rfl ⟨rfl, ((Grows.refl _).alloc _).drew⟩
/-- The table of places lies where the program's text lays it. -/
def Places (w : World) : Prop := 0 < w.heap.size ∧ ∀ i, w.cell? ⟨0, i, none⟩ = #[Value.int .i64 0, .int .i64 1, .int .i64 2, .int .i64 3, .int .i64 4, .int .i64 5, .int .i64 6][i]?
theorem Places.grows {w w' : World} (h : Places w) (hg : Grows w w') : Places w' := ⟨hg.lt h.1, fun i => by rw [hg.cell h.1]; exact h.2 i⟩
/-- The first k flags as a number. -/
def flTo (a b c d e f g : Bool) : Nat → Nat
  | 0 => 0
  | 1 => bit1 a
  | 2 => bit1 a + 2 * bit1 b
  | 3 => bit1 a + 2 * bit1 b + 4 * bit1 c
  | 4 => bit1 a + 2 * bit1 b + 4 * bit1 c + 8 * bit1 d
  | 5 => bit1 a + 2 * bit1 b + 4 * bit1 c + 8 * bit1 d + 16 * bit1 e
  | 6 => bit1 a + 2 * bit1 b + 4 * bit1 c + 8 * bit1 d + 16 * bit1 e + 32 * bit1 f
  | _ => flagsN a b c d e f g
def flAt (a b c d e f g : Bool) : Nat → Bool
  | 0 => a
  | 1 => b
  | 2 => c
  | 3 => d
  | 4 => e
  | 5 => f
  | _ => g
theorem flTo_succ (a b c d e f g : Bool) {k : Nat} (hk : k < 7) : flTo a b c d e f g (k + 1) = flTo a b c d e f g k + bit1 (flAt a b c d e f g k) * 2 ^ k := by
  match k, hk with
  | 0, _ => simp [flTo, flAt]
  | 1, _ => simp [flTo, flAt]; omega
  | 2, _ => simp [flTo, flAt]; omega
  | 3, _ => simp [flTo, flAt]; omega
  | 4, _ => simp [flTo, flAt]; omega
  | 5, _ => simp [flTo, flAt]; omega
  | 6, _ => simp [flTo, flAt, flagsN]; omega
theorem bit1_le (b : Bool) : bit1 b ≤ 1 := by cases b <;> decide
theorem flTo_lt (a b c d e f g : Bool) {k : Nat} (hk : k ≤ 7) : flTo a b c d e f g k < 2 ^ k := by
  have ha := bit1_le a; have hb := bit1_le b; have hc := bit1_le c; have hd := bit1_le d; have he := bit1_le e; have hf := bit1_le f; have hg := bit1_le g
  match k, hk with
  | 0, _ => simp [flTo]
  | 1, _ => simp [flTo]; omega
  | 2, _ => simp [flTo]; omega
  | 3, _ => simp [flTo]; omega
  | 4, _ => simp [flTo]; omega
  | 5, _ => simp [flTo]; omega
  | 6, _ => simp [flTo]; omega
  | 7, _ => simp [flTo, flagsN]; omega
theorem cellAt (a b c d e f g : Bool) (n : Int) {k : Nat} (hk : k < 7) : #[Value.bool a, .bool b, .bool c, .bool d, .bool e, .bool f, .bool g, .int .i64 n][k]? = some (.bool (flAt a b c d e f g k)) := by
  match k, hk with
  | 0, _ => rfl
  | 1, _ => rfl
  | 2, _ => rfl
  | 3, _ => rfl
  | 4, _ => rfl
  | 5, _ => rfl
  | 6, _ => rfl
theorem placeAt {k : Nat} (hk : k < 7) : #[Value.int .i64 0, .int .i64 1, .int .i64 2, .int .i64 3, .int .i64 4, .int .i64 5, .int .i64 6][k]? = some (.int .i64 k) := by
  match k, hk with
  | 0, _ => rfl
  | 1, _ => rfl
  | 2, _ => rfl
  | 3, _ => rfl
  | 4, _ => rfl
  | 5, _ => rfl
  | 6, _ => rfl
theorem step_bit (N k F : Nat) (hk : k < 7) (hF : F < 2 ^ k) : (N * 1024 + F) ||| 2 ^ k = N * 1024 + (F + 1 * 2 ^ k) := by
  have h1 : (N * 1024 + F) / 2 ^ k % 2 = 0 := by
    have : k = 0 ∨ k = 1 ∨ k = 2 ∨ k = 3 ∨ k = 4 ∨ k = 5 ∨ k = 6 := by omega
    rcases this with rfl | rfl | rfl | rfl | rfl | rfl | rfl <;> simp only [Nat.reducePow] at * <;> omega
  rw [nat_or_bit h1, Nat.one_mul, Nat.add_assoc]
theorem step_or {N k F M : Nat} {p : Int} (hk : k < 7) (hF : F < 2 ^ k) (hN : N < 65536) (hM : M = N * 1024 + F) (hp : p = ((2 ^ k : Nat) : Int)) : bits .or .u64 (M : Int) p = ((N * 1024 + (F + 1 * 2 ^ k) : Nat) : Int) := by
  have h1 : 2 ^ k ≤ 2 ^ 6 := Nat.pow_le_pow_right (by omega) (by omega)
  rw [hp, u64_or_nat _ _ (by omega) (by omega), hM, step_bit N k F hk hF]
set_option maxHeartbeats 2000000 in
theorem pack_any (a b c d e f g : Bool) (n : Int) (w : World) (hT : Places w) :
    Calls Tryd.prog 78 #[.agg #[.bool a, .bool b, .bool c, .bool d, .bool e, .bool f, .bool g, .int .i64 n]] w fun r w' => r = .returned (.tuple #[.int .u64 (packZ a b c d e f g n), .int .i64 (packE a b c d e f g n)]) ∧ Grows w w' := by
  cases hr : rightB a b c d e f g n
  · go_enter Tryd.func78, Tryd.ntmps78
    go_wp2_with fail
    refine (right_any _ _ _ _ _ _ _ _ _).mono ?_
    rintro _ w1 ⟨rfl, g1, rfl⟩
    rw [hr]
    go_wp2_with fail
    go_ret2
    exact ⟨by simp [packZ, packE, hr], ((Grows.refl _).alloc _).grow _⟩
  · obtain ⟨n0, n1⟩ := rightB_frame hr
    go_enter Tryd.func78, Tryd.ntmps78
    go_wp2_with fail
    refine (right_any _ _ _ _ _ _ _ _ _).mono ?_
    rintro _ w1 ⟨rfl, g1, rfl⟩
    rw [hr]
    go_wp2_with fail
    refine (flags_any _ _).mono ?_
    rintro _ w2 ⟨rfl, g2, rfl⟩
    go_wp2_with fail
    obtain ⟨W, hW⟩ : ∃ W, W = (w.alloc (Obj.cells #[.bool a, .bool b, .bool c, .bool d, .bool e, .bool f, .bool g, .int .i64 n] 111)).grow (g1.join g2) := ⟨_, rfl⟩
    rw [← hW]
    have hg : Grows w W := by rw [hW]; exact ((Grows.refl _).alloc _).grow _
    have hc : ∀ i, W.cell? ⟨w.heap.size, i, none⟩ = #[Value.bool a, .bool b, .bool c, .bool d, .bool e, .bool f, .bool g, .int .i64 n][i]? := by
      intro i; rw [hW, World.cell?_grow _ _ (by simp), World.cell?_alloc_at _ _ _ _ rfl]
    obtain ⟨_, hP⟩ := hT.grows hg
    clear hW hT
    obtain ⟨N, rfl⟩ := Int.eq_ofNat_of_zero_le n0
    have N1 := Lib.hid n1
    clear n1
    have HC := Lib.hid hc
    have HP := Lib.hid hP
    clear hc hP
    go_loopw [4, 15] (fun v i wr => (∃ (k : Nat) (I : Int) (M : Nat), k ≤ 7 ∧ I = k ∧ M = N * 1024 + flTo a b c d e f g k ∧ i = .int .i64 I ∧ v = .int .u64 M) ∧ wr = W) (fun _ i _ => (7 - intOf i).toNat)
    case atStart => exact ⟨⟨0, 0, _, by omega, rfl, rfl, rfl, by simp [flTo]⟩, rfl⟩
    case round =>
      obtain ⟨⟨k, I, M, hk, hI, hM, rfl, rfl⟩, hwr⟩ := hrel
      subst hwr
      by_cases hlt : k < 7
      · have c0 : wr.cell? ⟨w.heap.size, k, none⟩ = some (.bool (flAt a b c d e f g k)) := by rw [HC.out, cellAt _ _ _ _ _ _ _ _ hlt]
        have p0 : wr.cell? ⟨0, k, none⟩ = some (.int .i64 k) := by rw [HP.out, placeAt hlt]
        have hl := flTo_lt a b c d e f g (k := k) (by omega)
        have HS := flTo_succ a b c d e f g hlt
        have HN := step_bit N k (flTo a b c d e f g k) hlt hl
        have HM : Hid (M = N * 1024 + flTo a b c d e f g k ∧ ((N * 1024 + flTo a b c d e f g k) ||| 2 ^ k = N * 1024 + (flTo a b c d e f g k + 1 * 2 ^ k)) ∧ flTo a b c d e f g (k + 1) = flTo a b c d e f g k + bit1 (flAt a b c d e f g k) * 2 ^ k) := Lib.hid ⟨hM, HN, HS⟩
        clear hM hl HN HS
        rw [← hI] at p0
        cases hb : flAt a b c d e f g k
        · rw [hb] at c0 HM
          have : k = 0 ∨ k = 1 ∨ k = 2 ∨ k = 3 ∨ k = 4 ∨ k = 5 ∨ k = 6 := by omega
          rcases this with rfl | rfl | rfl | rfl | rfl | rfl | rfl
          · simp at hI
            subst hI
            have i0 : ∀ w', (Instr.index 167 (.agg #[.pointer (some ⟨w.heap.size, 0, none⟩), .pointer (some ⟨w.heap.size, 1, none⟩), .pointer (some ⟨w.heap.size, 2, none⟩), .pointer (some ⟨w.heap.size, 3, none⟩), .pointer (some ⟨w.heap.size, 4, none⟩), .pointer (some ⟨w.heap.size, 5, none⟩), .pointer (some ⟨w.heap.size, 6, none⟩)]) (.int .i64 0)).run Tryd.prog w' = .ok (.pointer (some ⟨w.heap.size, 0, none⟩)) w' := fun _ => by kernel_rfl
            go_wp2_with fail
            obtain ⟨h1, h2, h3⟩ := HM.out
            exact ⟨⟨⟨1, 1, M, by omega, rfl, by rw [h1, h3]; simp [bit1], rfl, rfl⟩, trivial⟩, by decide⟩
          · simp at hI
            subst hI
            have i0 : ∀ w', (Instr.index 167 (.agg #[.pointer (some ⟨w.heap.size, 0, none⟩), .pointer (some ⟨w.heap.size, 1, none⟩), .pointer (some ⟨w.heap.size, 2, none⟩), .pointer (some ⟨w.heap.size, 3, none⟩), .pointer (some ⟨w.heap.size, 4, none⟩), .pointer (some ⟨w.heap.size, 5, none⟩), .pointer (some ⟨w.heap.size, 6, none⟩)]) (.int .i64 1)).run Tryd.prog w' = .ok (.pointer (some ⟨w.heap.size, 1, none⟩)) w' := fun _ => by kernel_rfl
            go_wp2_with fail
            obtain ⟨h1, h2, h3⟩ := HM.out
            exact ⟨⟨⟨2, 2, M, by omega, rfl, by rw [h1, h3]; simp [bit1], rfl, rfl⟩, trivial⟩, by decide⟩
          · simp at hI
            subst hI
            have i0 : ∀ w', (Instr.index 167 (.agg #[.pointer (some ⟨w.heap.size, 0, none⟩), .pointer (some ⟨w.heap.size, 1, none⟩), .pointer (some ⟨w.heap.size, 2, none⟩), .pointer (some ⟨w.heap.size, 3, none⟩), .pointer (some ⟨w.heap.size, 4, none⟩), .pointer (some ⟨w.heap.size, 5, none⟩), .pointer (some ⟨w.heap.size, 6, none⟩)]) (.int .i64 2)).run Tryd.prog w' = .ok (.pointer (some ⟨w.heap.size, 2, none⟩)) w' := fun _ => by kernel_rfl
            go_wp2_with fail
            obtain ⟨h1, h2, h3⟩ := HM.out
            exact ⟨⟨⟨3, 3, M, by omega, rfl, by rw [h1, h3]; simp [bit1], rfl, rfl⟩, trivial⟩, by decide⟩
          · simp at hI
            subst hI
            have i0 : ∀ w', (Instr.index 167 (.agg #[.pointer (some ⟨w.heap.size, 0, none⟩), .pointer (some ⟨w.heap.size, 1, none⟩), .pointer (some ⟨w.heap.size, 2, none⟩), .pointer (some ⟨w.heap.size, 3, none⟩), .pointer (some ⟨w.heap.size, 4, none⟩), .pointer (some ⟨w.heap.size, 5, none⟩), .pointer (some ⟨w.heap.size, 6, none⟩)]) (.int .i64 3)).run Tryd.prog w' = .ok (.pointer (some ⟨w.heap.size, 3, none⟩)) w' := fun _ => by kernel_rfl
            go_wp2_with fail
            obtain ⟨h1, h2, h3⟩ := HM.out
            exact ⟨⟨⟨4, 4, M, by omega, rfl, by rw [h1, h3]; simp [bit1], rfl, rfl⟩, trivial⟩, by decide⟩
          · simp at hI
            subst hI
            have i0 : ∀ w', (Instr.index 167 (.agg #[.pointer (some ⟨w.heap.size, 0, none⟩), .pointer (some ⟨w.heap.size, 1, none⟩), .pointer (some ⟨w.heap.size, 2, none⟩), .pointer (some ⟨w.heap.size, 3, none⟩), .pointer (some ⟨w.heap.size, 4, none⟩), .pointer (some ⟨w.heap.size, 5, none⟩), .pointer (some ⟨w.heap.size, 6, none⟩)]) (.int .i64 4)).run Tryd.prog w' = .ok (.pointer (some ⟨w.heap.size, 4, none⟩)) w' := fun _ => by kernel_rfl
            go_wp2_with fail
            obtain ⟨h1, h2, h3⟩ := HM.out
            exact ⟨⟨⟨5, 5, M, by omega, rfl, by rw [h1, h3]; simp [bit1], rfl, rfl⟩, trivial⟩, by decide⟩
          · simp at hI
            subst hI
            have i0 : ∀ w', (Instr.index 167 (.agg #[.pointer (some ⟨w.heap.size, 0, none⟩), .pointer (some ⟨w.heap.size, 1, none⟩), .pointer (some ⟨w.heap.size, 2, none⟩), .pointer (some ⟨w.heap.size, 3, none⟩), .pointer (some ⟨w.heap.size, 4, none⟩), .pointer (some ⟨w.heap.size, 5, none⟩), .pointer (some ⟨w.heap.size, 6, none⟩)]) (.int .i64 5)).run Tryd.prog w' = .ok (.pointer (some ⟨w.heap.size, 5, none⟩)) w' := fun _ => by kernel_rfl
            go_wp2_with fail
            obtain ⟨h1, h2, h3⟩ := HM.out
            exact ⟨⟨⟨6, 6, M, by omega, rfl, by rw [h1, h3]; simp [bit1], rfl, rfl⟩, trivial⟩, by decide⟩
          · simp at hI
            subst hI
            have i0 : ∀ w', (Instr.index 167 (.agg #[.pointer (some ⟨w.heap.size, 0, none⟩), .pointer (some ⟨w.heap.size, 1, none⟩), .pointer (some ⟨w.heap.size, 2, none⟩), .pointer (some ⟨w.heap.size, 3, none⟩), .pointer (some ⟨w.heap.size, 4, none⟩), .pointer (some ⟨w.heap.size, 5, none⟩), .pointer (some ⟨w.heap.size, 6, none⟩)]) (.int .i64 6)).run Tryd.prog w' = .ok (.pointer (some ⟨w.heap.size, 6, none⟩)) w' := fun _ => by kernel_rfl
            go_wp2_with fail
            obtain ⟨h1, h2, h3⟩ := HM.out
            exact ⟨⟨⟨7, 7, M, by omega, rfl, by rw [h1, h3]; simp [bit1], rfl, rfl⟩, trivial⟩, by decide⟩
        · rw [hb] at c0 HM
          have : k = 0 ∨ k = 1 ∨ k = 2 ∨ k = 3 ∨ k = 4 ∨ k = 5 ∨ k = 6 := by omega
          rcases this with rfl | rfl | rfl | rfl | rfl | rfl | rfl
          · simp at hI
            subst hI
            have i0 : ∀ w', (Instr.index 167 (.agg #[.pointer (some ⟨w.heap.size, 0, none⟩), .pointer (some ⟨w.heap.size, 1, none⟩), .pointer (some ⟨w.heap.size, 2, none⟩), .pointer (some ⟨w.heap.size, 3, none⟩), .pointer (some ⟨w.heap.size, 4, none⟩), .pointer (some ⟨w.heap.size, 5, none⟩), .pointer (some ⟨w.heap.size, 6, none⟩)]) (.int .i64 0)).run Tryd.prog w' = .ok (.pointer (some ⟨w.heap.size, 0, none⟩)) w' := fun _ => by kernel_rfl
            go_wp2_with fail
            obtain ⟨h1, h2, h3⟩ := HM.out
            have h4 := step_or (p := 1) hlt (flTo_lt a b c d e f g (by omega)) (by have := N1.out; omega) h1 rfl
            exact ⟨⟨⟨1, 1, _, by omega, rfl, rfl, rfl, by rw [h3, h4]; simp [bit1]⟩, trivial⟩, by decide⟩
          · simp at hI
            subst hI
            have i0 : ∀ w', (Instr.index 167 (.agg #[.pointer (some ⟨w.heap.size, 0, none⟩), .pointer (some ⟨w.heap.size, 1, none⟩), .pointer (some ⟨w.heap.size, 2, none⟩), .pointer (some ⟨w.heap.size, 3, none⟩), .pointer (some ⟨w.heap.size, 4, none⟩), .pointer (some ⟨w.heap.size, 5, none⟩), .pointer (some ⟨w.heap.size, 6, none⟩)]) (.int .i64 1)).run Tryd.prog w' = .ok (.pointer (some ⟨w.heap.size, 1, none⟩)) w' := fun _ => by kernel_rfl
            go_wp2_with fail
            obtain ⟨h1, h2, h3⟩ := HM.out
            have h4 := step_or (p := 2) hlt (flTo_lt a b c d e f g (by omega)) (by have := N1.out; omega) h1 rfl
            exact ⟨⟨⟨2, 2, _, by omega, rfl, rfl, rfl, by rw [h3, h4]; simp [bit1]⟩, trivial⟩, by decide⟩
          · simp at hI
            subst hI
            have i0 : ∀ w', (Instr.index 167 (.agg #[.pointer (some ⟨w.heap.size, 0, none⟩), .pointer (some ⟨w.heap.size, 1, none⟩), .pointer (some ⟨w.heap.size, 2, none⟩), .pointer (some ⟨w.heap.size, 3, none⟩), .pointer (some ⟨w.heap.size, 4, none⟩), .pointer (some ⟨w.heap.size, 5, none⟩), .pointer (some ⟨w.heap.size, 6, none⟩)]) (.int .i64 2)).run Tryd.prog w' = .ok (.pointer (some ⟨w.heap.size, 2, none⟩)) w' := fun _ => by kernel_rfl
            go_wp2_with fail
            obtain ⟨h1, h2, h3⟩ := HM.out
            have h4 := step_or (p := 4) hlt (flTo_lt a b c d e f g (by omega)) (by have := N1.out; omega) h1 rfl
            exact ⟨⟨⟨3, 3, _, by omega, rfl, rfl, rfl, by rw [h3, h4]; simp [bit1]⟩, trivial⟩, by decide⟩
          · simp at hI
            subst hI
            have i0 : ∀ w', (Instr.index 167 (.agg #[.pointer (some ⟨w.heap.size, 0, none⟩), .pointer (some ⟨w.heap.size, 1, none⟩), .pointer (some ⟨w.heap.size, 2, none⟩), .pointer (some ⟨w.heap.size, 3, none⟩), .pointer (some ⟨w.heap.size, 4, none⟩), .pointer (some ⟨w.heap.size, 5, none⟩), .pointer (some ⟨w.heap.size, 6, none⟩)]) (.int .i64 3)).run Tryd.prog w' = .ok (.pointer (some ⟨w.heap.size, 3, none⟩)) w' := fun _ => by kernel_rfl
            go_wp2_with fail
            obtain ⟨h1, h2, h3⟩ := HM.out
            have h4 := step_or (p := 8) hlt (flTo_lt a b c d e f g (by omega)) (by have := N1.out; omega) h1 rfl
            exact ⟨⟨⟨4, 4, _, by omega, rfl, rfl, rfl, by rw [h3, h4]; simp [bit1]⟩, trivial⟩, by decide⟩
          · simp at hI
            subst hI
            have i0 : ∀ w', (Instr.index 167 (.agg #[.pointer (some ⟨w.heap.size, 0, none⟩), .pointer (some ⟨w.heap.size, 1, none⟩), .pointer (some ⟨w.heap.size, 2, none⟩), .pointer (some ⟨w.heap.size, 3, none⟩), .pointer (some ⟨w.heap.size, 4, none⟩), .pointer (some ⟨w.heap.size, 5, none⟩), .pointer (some ⟨w.heap.size, 6, none⟩)]) (.int .i64 4)).run Tryd.prog w' = .ok (.pointer (some ⟨w.heap.size, 4, none⟩)) w' := fun _ => by kernel_rfl
            go_wp2_with fail
            obtain ⟨h1, h2, h3⟩ := HM.out
            have h4 := step_or (p := 16) hlt (flTo_lt a b c d e f g (by omega)) (by have := N1.out; omega) h1 rfl
            exact ⟨⟨⟨5, 5, _, by omega, rfl, rfl, rfl, by rw [h3, h4]; simp [bit1]⟩, trivial⟩, by decide⟩
          · simp at hI
            subst hI
            have i0 : ∀ w', (Instr.index 167 (.agg #[.pointer (some ⟨w.heap.size, 0, none⟩), .pointer (some ⟨w.heap.size, 1, none⟩), .pointer (some ⟨w.heap.size, 2, none⟩), .pointer (some ⟨w.heap.size, 3, none⟩), .pointer (some ⟨w.heap.size, 4, none⟩), .pointer (some ⟨w.heap.size, 5, none⟩), .pointer (some ⟨w.heap.size, 6, none⟩)]) (.int .i64 5)).run Tryd.prog w' = .ok (.pointer (some ⟨w.heap.size, 5, none⟩)) w' := fun _ => by kernel_rfl
            go_wp2_with fail
            obtain ⟨h1, h2, h3⟩ := HM.out
            have h4 := step_or (p := 32) hlt (flTo_lt a b c d e f g (by omega)) (by have := N1.out; omega) h1 rfl
            exact ⟨⟨⟨6, 6, _, by omega, rfl, rfl, rfl, by rw [h3, h4]; simp [bit1]⟩, trivial⟩, by decide⟩
          · simp at hI
            subst hI
            have i0 : ∀ w', (Instr.index 167 (.agg #[.pointer (some ⟨w.heap.size, 0, none⟩), .pointer (some ⟨w.heap.size, 1, none⟩), .pointer (some ⟨w.heap.size, 2, none⟩), .pointer (some ⟨w.heap.size, 3, none⟩), .pointer (some ⟨w.heap.size, 4, none⟩), .pointer (some ⟨w.heap.size, 5, none⟩), .pointer (some ⟨w.heap.size, 6, none⟩)]) (.int .i64 6)).run Tryd.prog w' = .ok (.pointer (some ⟨w.heap.size, 6, none⟩)) w' := fun _ => by kernel_rfl
            go_wp2_with fail
            obtain ⟨h1, h2, h3⟩ := HM.out
            have h4 := step_or (p := 64) hlt (flTo_lt a b c d e f g (by omega)) (by have := N1.out; omega) h1 rfl
            exact ⟨⟨⟨7, 7, _, by omega, rfl, rfl, rfl, by rw [h3, h4]; simp [bit1]⟩, trivial⟩, by decide⟩
      · have : k = 7 := by omega
        subst this
        simp at hI
        subst hI
        go_wp2_with fail
        go_ret2
        exact ⟨by simp [packZ, packE, hr, hM, flTo], hg⟩
end Go.Proofs.YtlchlklbjocliaaDoor

/- What the reference of the package entry computes: may, bit, Pack, Leaf, Allows. -/
namespace Go.Proofs.YtlchlklbjocliaaDoor
open Go Go.RowKit
set_option linter.unusedSimpArgs false
set_option linter.unusedVariables false
set_option maxRecDepth 100000
set_option maxHeartbeats 1000000 in
theorem may_any (a b c d e f g : Bool) (n : Int) (w : World) :
    Calls Tryd.prog 102 #[.agg #[.bool a, .bool b, .bool c, .bool d, .bool e, .bool f, .bool g, .int .i64 n]] w fun r w' => r = .returned (.bool (rightB a b c d e f g n)) ∧ Grows w w' := by
  have he := eq_rentry
  cases a
  · go_enter Tryd.func102, Tryd.ntmps102
    go_wp2_with fail
    go_ret
    exact ⟨by simp [rightB], ((Grows.refl _).alloc _)⟩
  · by_cases h0 : 0 ≤ n ∧ n < 65536
    · obtain ⟨h0, h1⟩ := h0
      have hd0 : decide (0 ≤ n) = true := decide_eq_true h0
      have hd1 : decide (n < 65536) = true := decide_eq_true h1
      cases c
      · cases b
        · cases d
          · cases e
            · cases f
              · go_enter Tryd.func102, Tryd.ntmps102
                go_wp2_with fail
                go_ret
                exact ⟨by simp [rightB, hd0, hd1], ((Grows.refl _).alloc _)⟩
              · go_enter Tryd.func102, Tryd.ntmps102
                go_wp2_with fail
                go_ret
                exact ⟨by simp [rightB, hd0, hd1], ((Grows.refl _).alloc _)⟩
            · go_enter Tryd.func102, Tryd.ntmps102
              go_wp2_with fail
              go_ret
              exact ⟨by simp [rightB, hd0, hd1], ((Grows.refl _).alloc _)⟩
          · go_enter Tryd.func102, Tryd.ntmps102
            go_wp2_with fail
            go_ret
            exact ⟨by simp [rightB, hd0, hd1], ((Grows.refl _).alloc _)⟩
        · go_enter Tryd.func102, Tryd.ntmps102
          go_wp2_with fail
          go_ret
          exact ⟨by simp [rightB, hd0, hd1], ((Grows.refl _).alloc _)⟩
      · cases b
        · go_enter Tryd.func102, Tryd.ntmps102
          go_wp2_with fail
          go_ret
          exact ⟨by simp [rightB, hd0, hd1], ((Grows.refl _).alloc _)⟩
        · go_enter Tryd.func102, Tryd.ntmps102
          go_wp2_with fail
          go_ret
          exact ⟨by simp [rightB, hd0, hd1], ((Grows.refl _).alloc _)⟩
    · have hz' : rightB true b c d e f g n = false := by
        have : (decide (0 ≤ n) && decide (n < 65536)) = false := by simp; omega
        simp [rightB, this]
      rw [hz']
      clear hz'
      by_cases h2 : n < 0
      · go_enter Tryd.func102, Tryd.ntmps102
        go_wp2_with fail
        go_ret
        exact ⟨by simp, ((Grows.refl _).alloc _)⟩
      · have h3 : 65536 ≤ n := by omega
        go_enter Tryd.func102, Tryd.ntmps102
        go_wp2_with fail
        go_ret
        exact ⟨by simp, ((Grows.refl _).alloc _)⟩
def bitP (k : Int) : Int := if k = 0 then 1 else if k = 1 then 2 else if k = 2 then 4 else if k = 3 then 8 else if k = 4 then 16 else if k = 5 then 32 else 64
@[simp, go_sem] theorem bitP0 : bitP 0 = 1 := rfl
@[simp, go_sem] theorem bitP1 : bitP 1 = 2 := rfl
@[simp, go_sem] theorem bitP2 : bitP 2 = 4 := rfl
@[simp, go_sem] theorem bitP3 : bitP 3 = 8 := rfl
@[simp, go_sem] theorem bitP4 : bitP 4 = 16 := rfl
@[simp, go_sem] theorem bitP5 : bitP 5 = 32 := rfl
@[simp, go_sem] theorem bitP6 : bitP 6 = 64 := rfl
theorem bit_any (x : Bool) (k : Int) (w : World) (h : 0 ≤ k ∧ k ≤ 6) :
    Calls Tryd.prog 103 #[.bool x, .int .i64 k] w fun r w' => r = .returned (.int .u64 (bit1 x * bitP k)) ∧ Grows w w' := by
  cases x
  · go_enter Tryd.func103, Tryd.ntmps103
    go_wp2_with fail
    go_ret
    exact ⟨by simp [bit1], Grows.refl _⟩
  · have : k = 0 ∨ k = 1 ∨ k = 2 ∨ k = 3 ∨ k = 4 ∨ k = 5 ∨ k = 6 := by omega
    rcases this with rfl | rfl | rfl | rfl | rfl | rfl | rfl
    all_goals
      clear h
      go_enter Tryd.func103, Tryd.ntmps103
      go_wp2_with fail
      go_ret
      exact ⟨by simp [bit1], Grows.refl _⟩
set_option maxHeartbeats 2000000 in
theorem rpack_any (a b c d e f g : Bool) (n : Int) (w : World) :
    Calls Tryd.prog 99 #[.agg #[.bool a, .bool b, .bool c, .bool d, .bool e, .bool f, .bool g, .int .i64 n]] w fun r w' => r = .returned (.tuple #[.int .u64 (packZ a b c d e f g n), .int .i64 (packE a b c d e f g n)]) ∧ Grows w w' := by
  cases hr : rightB a b c d e f g n
  · go_enter Tryd.func99, Tryd.ntmps99
    go_wp2_with fail
    refine (may_any _ _ _ _ _ _ _ _ _).mono ?_
    rintro _ w1 ⟨rfl, g1, rfl⟩
    rw [hr]
    go_wp2_with fail
    go_ret2
    exact ⟨by simp [packZ, packE, hr], ((Grows.refl _).alloc _).grow _⟩
  · obtain ⟨n0, n1⟩ := rightB_frame hr
    have la := bit1_le a; have lb := bit1_le b; have lc := bit1_le c; have ld := bit1_le d; have le := bit1_le e; have lf := bit1_le f; have lg := bit1_le g
    go_enter Tryd.func99, Tryd.ntmps99
    go_wp2_with fail
    refine (may_any _ _ _ _ _ _ _ _ _).mono ?_
    rintro _ w1 ⟨rfl, g1, rfl⟩
    rw [hr]
    go_wp2_with fail
    refine wp_region_grow (by kernel_rfl) (by kernel_rfl) ?_
    repeat (go_big_quiet_step ((go_at_call 103; exact Calls.quiet_grow (bit_any _ _ _ (by decide)))))
    refine wpQuiet_nil ?_
    intro _ hw'
    obtain ⟨g2, rfl⟩ := hw'
    go_wp2_with fail
    go_ret2
    exact ⟨by simp [packZ, packE, hr, flagsN]; omega, ((Grows.refl _).alloc _).grow _⟩
end Go.Proofs.YtlchlklbjocliaaDoor

/- What Unpack of the package entry, and of its reference, computes. -/
namespace Go.Proofs.YtlchlklbjocliaaDoor
open Go Go.RowKit
set_option linter.unusedSimpArgs false
set_option linter.unusedVariables false
set_option maxRecDepth 100000
theorem row_setCell {w : World} {b i : Nat} {c : Array Value} {t : TypeId} (h : Row w b c t) (hi : i < c.size) (v : Value) : Row (w.setCell ⟨b, i, none⟩ v) b (c.set i v) t := by
  unfold Row at *
  show (w.heap.modify b _)[b]? = _
  rw [Array.getElem?_modify, if_pos rfl, h]
  simp [Array.setIfInBounds, hi]
def bitN (v : Nat) (k : Nat) : Bool := ((v / 2 ^ k % 2 : Nat) : Int) == 1
def upTo (v n : Nat) (k : Nat) : Array Value := #[.bool (decide (0 < k) && bitN v 0), .bool (decide (1 < k) && bitN v 1), .bool (decide (2 < k) && bitN v 2), .bool (decide (3 < k) && bitN v 3), .bool (decide (4 < k) && bitN v 4), .bool (decide (5 < k) && bitN v 5), .bool (decide (6 < k) && bitN v 6), .int .i64 n]
theorem row_setOther {w : World} {b : Nat} {c : Array Value} {t : TypeId} (h : Row w b c t) {p : Addr} (hp : p.block ≠ b) (v : Value) : Row (w.setCell p v) b c t := by
  unfold Row at *
  show (w.heap.modify p.block _)[b]? = _
  rw [Array.getElem?_modify, if_neg hp, h]
theorem upTo_next {w : World} {b v n k : Nat} {t : TypeId} {x : Bool} (h : Row w b (upTo v n k) t) (hk : k < 7) (hx : x = bitN v k) : Row (w.setCell ⟨b, k, none⟩ (.bool x)) b (upTo v n (k + 1)) t := by
  have hs : k < (upTo v n k).size := by simp [upTo]; omega
  have := row_setCell h hs (.bool x)
  have e : (upTo v n k).set k (.bool x) hs = upTo v n (k + 1) := by
    subst hx
    have : k = 0 ∨ k = 1 ∨ k = 2 ∨ k = 3 ∨ k = 4 ∨ k = 5 ∨ k = 6 := by omega
    rcases this with rfl | rfl | rfl | rfl | rfl | rfl | rfl <;> simp [upTo]
  rw [e] at this
  exact this
theorem upTo7 (v n : Nat) : upTo v n 7 = #[.bool (bitN v 0), .bool (bitN v 1), .bool (bitN v 2), .bool (bitN v 3), .bool (bitN v 4), .bool (bitN v 5), .bool (bitN v 6), .int .i64 n] := by simp [upTo]
def zeroE : Array Value := #[.bool false, .bool false, .bool false, .bool false, .bool false, .bool false, .bool false, .int .i64 0]
/-- A struct's eight cells written one by one. -/
def World.fill8 (w : World) (b : Nat) (x0 x1 x2 x3 x4 x5 x6 : Bool) (x7 : Int) : World :=
  (((((((w.setCell ⟨b, 0, none⟩ (.bool x0)).setCell ⟨b, 1, none⟩ (.bool x1)).setCell ⟨b, 2, none⟩ (.bool x2)).setCell ⟨b, 3, none⟩ (.bool x3)).setCell ⟨b, 4, none⟩ (.bool x4)).setCell ⟨b, 5, none⟩ (.bool x5)).setCell ⟨b, 6, none⟩ (.bool x6)).setCell ⟨b, 7, none⟩ (.int .i64 x7)
theorem row_fill8 {w : World} {b : Nat} {t : TypeId} (h : Row w b zeroE t) (x0 x1 x2 x3 x4 x5 x6 : Bool) (x7 : Int) :
    Row (World.fill8 w b x0 x1 x2 x3 x4 x5 x6 x7) b #[.bool x0, .bool x1, .bool x2, .bool x3, .bool x4, .bool x5, .bool x6, .int .i64 x7] t := by
  have h0 := row_setCell h (i := 0) (by decide) (.bool x0)
  have h1 := row_setCell h0 (i := 1) (by simp [zeroE]) (.bool x1)
  have h2 := row_setCell h1 (i := 2) (by simp [zeroE]) (.bool x2)
  have h3 := row_setCell h2 (i := 3) (by simp [zeroE]) (.bool x3)
  have h4 := row_setCell h3 (i := 4) (by simp [zeroE]) (.bool x4)
  have h5 := row_setCell h4 (i := 5) (by simp [zeroE]) (.bool x5)
  have h6 := row_setCell h5 (i := 6) (by simp [zeroE]) (.bool x6)
  have h7 := row_setCell h6 (i := 7) (by simp [zeroE]) (.int .i64 x7)
  simpa [zeroE, World.fill8] using h7
theorem grows_fill8 {a w : World} (h : Grows a w) {b : Nat} (hb : a.heap.size ≤ b) (x0 x1 x2 x3 x4 x5 x6 : Bool) (x7 : Int) : Grows a (World.fill8 w b x0 x1 x2 x3 x4 x5 x6 x7) :=
  (((((((h.setCell hb _).setCell hb _).setCell hb _).setCell hb _).setCell hb _).setCell hb _).setCell hb _).setCell hb _
def goodB (v : Nat) : Bool := decide (packE (bitN v 0) (bitN v 1) (bitN v 2) (bitN v 3) (bitN v 4) (bitN v 5) (bitN v 6) ((v / 1024 % 65536 : Nat) : Int) = 0) && decide (packZ (bitN v 0) (bitN v 1) (bitN v 2) (bitN v 3) (bitN v 4) (bitN v 5) (bitN v 6) ((v / 1024 % 65536 : Nat) : Int) = v)
def unpA (v : Nat) : Array Value := if v % 2 = 1 ∧ goodB v = true then upTo v (v / 1024 % 65536) 7 else zeroE
def unpE (v : Nat) : Int := if v % 2 = 0 ∨ goodB v = true then 0 else 10
theorem bit_and (v : Nat) (k p : Nat) (hp : p = 2 ^ k) (hv : v < 18446744073709551616) : bits .and .u64 ((v : Int) / (p : Int)) 1 = ((v / 2 ^ k % 2 : Nat) : Int) := by
  subst hp
  have h1 : v / 2 ^ k ≤ v := Nat.div_le_self _ _
  have := and_mask_u64 (x := ((v / 2 ^ k : Nat) : Int)) (n := 1) (Int.natCast_nonneg _) (Int.lt_of_le_of_lt (Int.ofNat_le.mpr h1) (by omega)) (by omega)
  rw [show (2 : Int) ^ 1 - 1 = 1 from rfl, show (2 : Int) ^ 1 = 2 from rfl] at this
  rw [← Int.natCast_ediv, this]
  exact (Int.natCast_emod (v / 2 ^ k) 2).symm
set_option maxHeartbeats 2000000 in
theorem unpack_any (v : Nat) (hv : v < 18446744073709551616) (w : World) (hT : Places w) :
    Calls Tryd.prog 82 #[.int .u64 v] w fun r w' => r = .returned (.tuple #[.agg (unpA v), .int .i64 (unpE v)]) ∧ Grows w w' := by
  have HV := Lib.hid hv
  by_cases h2 : v % 2 = 0
  · have e0 : bits .and .u64 (v : Int) 1 = 0 := by have := bit_and v 0 1 rfl hv; simp at this; rw [this]; omega
    clear hv
    go_enter Tryd.func82, Tryd.ntmps82
    go_wp2_with fail
    exact bodyPost_ret (v := .tuple #[.agg zeroE, .int .i64 0]) (by simp [results, Tryd.results82, go_sem, zeroE]) rfl ⟨by simp [unpA, unpE, h2], (Grows.refl _).alloc _⟩
  · have e0 : bits .and .u64 (v : Int) 1 = 1 := by have := bit_and v 0 1 rfl hv; simp at this; rw [this]; omega
    have ef : bits .and .u64 ((v : Int) / 1024) 65535 = ((v / 1024 % 65536 : Nat) : Int) := by
      have := and_mask_u64 (x := ((v / 1024 : Nat) : Int)) (n := 16) (by omega) (by omega) (by omega)
      rw [show (2 : Int) ^ 16 - 1 = 65535 from rfl, show (2 : Int) ^ 16 = 65536 from rfl] at this
      rw [show (v : Int) / 1024 = ((v / 1024 : Nat) : Int) by omega, this]; omega
    have en : wrap64 (bits .and .u64 ((v : Int) / 1024) 65535) = ((v / 1024 % 65536 : Nat) : Int) := by rw [ef]; exact wrap64_small (by omega) (by omega)
    have hn65 : v / 1024 % 65536 < 65536 := Nat.mod_lt _ (by omega)
    obtain ⟨n, hn⟩ : ∃ n, n = v / 1024 % 65536 := ⟨_, rfl⟩
    rw [← hn] at en hn65
    have HN := Lib.hid hn
    have H65 := Lib.hid hn65
    have EN := Lib.hid en
    clear ef en hv hn hn65
    go_enter Tryd.func82, Tryd.ntmps82
    go_wp2_with fail
    refine (flags_any _ _).mono ?_
    rintro _ w2 ⟨rfl, g2, rfl⟩
    go_wp2_with fail
    rw [EN.out]
    obtain ⟨W, hW⟩ : ∃ W, W = ((w.alloc (Obj.cells zeroE 111)).alloc (Obj.cells #[.bool false, .bool false, .bool false, .bool false, .bool false, .bool false, .bool false, .int .i64 n] 111)).grow g2 := ⟨_, rfl⟩
    have hW2 := hW
    unfold zeroE at hW2
    rw [← hW2]
    clear hW2
    have hg : Grows w W := by rw [hW]; exact (((Grows.refl _).alloc _).alloc _).grow _
    have hZ : Row W w.heap.size zeroE 111 := by
      rw [hW]; exact (Row.new_at _ _ _ rfl).grows (((Grows.refl _).alloc _).grow _)
    have hR : Row W (w.heap.size + 1) (upTo v n 0) 111 := by
      rw [hW]; exact (Row.new_at _ _ _ (by simp)).grows ((Grows.refl _).grow _)
    clear hW
    go_loopw [19] (fun i wr => (∃ (k : Nat) (I : Int), k ≤ 7 ∧ I = k ∧ i = .int .i64 I ∧ Row wr (w.heap.size + 1) (upTo v n k) 111) ∧ Row wr w.heap.size zeroE 111 ∧ Grows w wr) (fun i _ => (7 - intOf i).toNat)
    case atStart => exact ⟨⟨0, 0, by omega, rfl, rfl, hR⟩, hZ, hg⟩
    case round =>
      obtain ⟨⟨k, I, hk, hI, rfl, hR'⟩, hZ', hg'⟩ := hrel
      clear hR hZ hg
      obtain ⟨hTs, hP⟩ := hT.grows hg'
      by_cases hlt : k < 7
      · have p0 : wr.cell? ⟨0, k, none⟩ = some (.int .i64 k) := by rw [hP, placeAt hlt]
        rw [← hI] at p0
        have c0 := hR'.cell k
        simp only [upTo] at c0
        have f0 := hR'.frozen k
        have s0 := hR'.lt
        have HR := Lib.hid hR'
        have HZ := Lib.hid hZ'
        clear hP hR' hZ' hT
        have : k = 0 ∨ k = 1 ∨ k = 2 ∨ k = 3 ∨ k = 4 ∨ k = 5 ∨ k = 6 := by omega
        rcases this with rfl | rfl | rfl | rfl | rfl | rfl | rfl
        · simp at hI
          subst hI
          have i0 : ∀ w', (Instr.index 167 (.agg #[.pointer (some ⟨w.heap.size + 1, 0, none⟩), .pointer (some ⟨w.heap.size + 1, 1, none⟩), .pointer (some ⟨w.heap.size + 1, 2, none⟩), .pointer (some ⟨w.heap.size + 1, 3, none⟩), .pointer (some ⟨w.heap.size + 1, 4, none⟩), .pointer (some ⟨w.heap.size + 1, 5, none⟩), .pointer (some ⟨w.heap.size + 1, 6, none⟩)]) (.int .i64 0)).run Tryd.prog w' = .ok (.pointer (some ⟨w.heap.size + 1, 0, none⟩)) w' := fun _ => by kernel_rfl
          obtain ⟨X, e1, hX⟩ : ∃ X : Int, bits .and .u64 (v : Int) 1 = X ∧ Hid (X = ((v / 2 ^ 0 % 2 : Nat) : Int)) := ⟨_, (by have := bit_and v 0 1 rfl HV.out; simp at this; simpa using this), Lib.hid rfl⟩
          go_wp2_with fail
          exact ⟨⟨⟨1, 1, by omega, rfl, rfl, upTo_next HR.out hlt (by have := h2; simp [bitN]; omega)⟩, row_setOther HZ.out (by simp) _, hg'.setCell (by simp) _⟩, by decide⟩
        · simp at hI
          subst hI
          have i0 : ∀ w', (Instr.index 167 (.agg #[.pointer (some ⟨w.heap.size + 1, 0, none⟩), .pointer (some ⟨w.heap.size + 1, 1, none⟩), .pointer (some ⟨w.heap.size + 1, 2, none⟩), .pointer (some ⟨w.heap.size + 1, 3, none⟩), .pointer (some ⟨w.heap.size + 1, 4, none⟩), .pointer (some ⟨w.heap.size + 1, 5, none⟩), .pointer (some ⟨w.heap.size + 1, 6, none⟩)]) (.int .i64 1)).run Tryd.prog w' = .ok (.pointer (some ⟨w.heap.size + 1, 1, none⟩)) w' := fun _ => by kernel_rfl
          obtain ⟨X, e1, hX⟩ : ∃ X : Int, bits .and .u64 ((v : Int) / 2) 1 = X ∧ Hid (X = ((v / 2 ^ 1 % 2 : Nat) : Int)) := ⟨_, (bit_and v 1 2 rfl HV.out), Lib.hid rfl⟩
          go_wp2_with fail
          exact ⟨⟨⟨2, 2, by omega, rfl, rfl, upTo_next HR.out hlt (by rw [hX.out]; rfl)⟩, row_setOther HZ.out (by simp) _, hg'.setCell (by simp) _⟩, by decide⟩
        · simp at hI
          subst hI
          have i0 : ∀ w', (Instr.index 167 (.agg #[.pointer (some ⟨w.heap.size + 1, 0, none⟩), .pointer (some ⟨w.heap.size + 1, 1, none⟩), .pointer (some ⟨w.heap.size + 1, 2, none⟩), .pointer (some ⟨w.heap.size + 1, 3, none⟩), .pointer (some ⟨w.heap.size + 1, 4, none⟩), .pointer (some ⟨w.heap.size + 1, 5, none⟩), .pointer (some ⟨w.heap.size + 1, 6, none⟩)]) (.int .i64 2)).run Tryd.prog w' = .ok (.pointer (some ⟨w.heap.size + 1, 2, none⟩)) w' := fun _ => by kernel_rfl
          obtain ⟨X, e1, hX⟩ : ∃ X : Int, bits .and .u64 ((v : Int) / 4) 1 = X ∧ Hid (X = ((v / 2 ^ 2 % 2 : Nat) : Int)) := ⟨_, (bit_and v 2 4 rfl HV.out), Lib.hid rfl⟩
          go_wp2_with fail
          exact ⟨⟨⟨3, 3, by omega, rfl, rfl, upTo_next HR.out hlt (by rw [hX.out]; rfl)⟩, row_setOther HZ.out (by simp) _, hg'.setCell (by simp) _⟩, by decide⟩
        · simp at hI
          subst hI
          have i0 : ∀ w', (Instr.index 167 (.agg #[.pointer (some ⟨w.heap.size + 1, 0, none⟩), .pointer (some ⟨w.heap.size + 1, 1, none⟩), .pointer (some ⟨w.heap.size + 1, 2, none⟩), .pointer (some ⟨w.heap.size + 1, 3, none⟩), .pointer (some ⟨w.heap.size + 1, 4, none⟩), .pointer (some ⟨w.heap.size + 1, 5, none⟩), .pointer (some ⟨w.heap.size + 1, 6, none⟩)]) (.int .i64 3)).run Tryd.prog w' = .ok (.pointer (some ⟨w.heap.size + 1, 3, none⟩)) w' := fun _ => by kernel_rfl
          obtain ⟨X, e1, hX⟩ : ∃ X : Int, bits .and .u64 ((v : Int) / 8) 1 = X ∧ Hid (X = ((v / 2 ^ 3 % 2 : Nat) : Int)) := ⟨_, (bit_and v 3 8 rfl HV.out), Lib.hid rfl⟩
          go_wp2_with fail
          exact ⟨⟨⟨4, 4, by omega, rfl, rfl, upTo_next HR.out hlt (by rw [hX.out]; rfl)⟩, row_setOther HZ.out (by simp) _, hg'.setCell (by simp) _⟩, by decide⟩
        · simp at hI
          subst hI
          have i0 : ∀ w', (Instr.index 167 (.agg #[.pointer (some ⟨w.heap.size + 1, 0, none⟩), .pointer (some ⟨w.heap.size + 1, 1, none⟩), .pointer (some ⟨w.heap.size + 1, 2, none⟩), .pointer (some ⟨w.heap.size + 1, 3, none⟩), .pointer (some ⟨w.heap.size + 1, 4, none⟩), .pointer (some ⟨w.heap.size + 1, 5, none⟩), .pointer (some ⟨w.heap.size + 1, 6, none⟩)]) (.int .i64 4)).run Tryd.prog w' = .ok (.pointer (some ⟨w.heap.size + 1, 4, none⟩)) w' := fun _ => by kernel_rfl
          obtain ⟨X, e1, hX⟩ : ∃ X : Int, bits .and .u64 ((v : Int) / 16) 1 = X ∧ Hid (X = ((v / 2 ^ 4 % 2 : Nat) : Int)) := ⟨_, (bit_and v 4 16 rfl HV.out), Lib.hid rfl⟩
          go_wp2_with fail
          exact ⟨⟨⟨5, 5, by omega, rfl, rfl, upTo_next HR.out hlt (by rw [hX.out]; rfl)⟩, row_setOther HZ.out (by simp) _, hg'.setCell (by simp) _⟩, by decide⟩
        · simp at hI
          subst hI
          have i0 : ∀ w', (Instr.index 167 (.agg #[.pointer (some ⟨w.heap.size + 1, 0, none⟩), .pointer (some ⟨w.heap.size + 1, 1, none⟩), .pointer (some ⟨w.heap.size + 1, 2, none⟩), .pointer (some ⟨w.heap.size + 1, 3, none⟩), .pointer (some ⟨w.heap.size + 1, 4, none⟩), .pointer (some ⟨w.heap.size + 1, 5, none⟩), .pointer (some ⟨w.heap.size + 1, 6, none⟩)]) (.int .i64 5)).run Tryd.prog w' = .ok (.pointer (some ⟨w.heap.size + 1, 5, none⟩)) w' := fun _ => by kernel_rfl
          obtain ⟨X, e1, hX⟩ : ∃ X : Int, bits .and .u64 ((v : Int) / 32) 1 = X ∧ Hid (X = ((v / 2 ^ 5 % 2 : Nat) : Int)) := ⟨_, (bit_and v 5 32 rfl HV.out), Lib.hid rfl⟩
          go_wp2_with fail
          exact ⟨⟨⟨6, 6, by omega, rfl, rfl, upTo_next HR.out hlt (by rw [hX.out]; rfl)⟩, row_setOther HZ.out (by simp) _, hg'.setCell (by simp) _⟩, by decide⟩
        · simp at hI
          subst hI
          have i0 : ∀ w', (Instr.index 167 (.agg #[.pointer (some ⟨w.heap.size + 1, 0, none⟩), .pointer (some ⟨w.heap.size + 1, 1, none⟩), .pointer (some ⟨w.heap.size + 1, 2, none⟩), .pointer (some ⟨w.heap.size + 1, 3, none⟩), .pointer (some ⟨w.heap.size + 1, 4, none⟩), .pointer (some ⟨w.heap.size + 1, 5, none⟩), .pointer (some ⟨w.heap.size + 1, 6, none⟩)]) (.int .i64 6)).run Tryd.prog w' = .ok (.pointer (some ⟨w.heap.size + 1, 6, none⟩)) w' := fun _ => by kernel_rfl
          obtain ⟨X, e1, hX⟩ : ∃ X : Int, bits .and .u64 ((v : Int) / 64) 1 = X ∧ Hid (X = ((v / 2 ^ 6 % 2 : Nat) : Int)) := ⟨_, (bit_and v 6 64 rfl HV.out), Lib.hid rfl⟩
          go_wp2_with fail
          exact ⟨⟨⟨7, 7, by omega, rfl, rfl, upTo_next HR.out hlt (by rw [hX.out]; rfl)⟩, row_setOther HZ.out (by simp) _, hg'.setCell (by simp) _⟩, by decide⟩
      · have : k = 7 := by omega
        subst this
        simp at hI
        subst hI
        rw [upTo7] at hR'
        have hc := hR'.cell
        have s0 := hR'.lt
        have zc := hZ'.cell
        have zf := hZ'.frozen
        have z0 := hZ'.lt
        unfold zeroE at zc
        clear hR' hP hTs
        go_wp2_with fail
        refine (pack_any _ _ _ _ _ _ _ _ _ (hT.grows hg')).mono ?_
        rintro _ w3 ⟨rfl, g3, rfl⟩
        obtain ⟨PE, hPE⟩ : ∃ x, x = packE (bitN v 0) (bitN v 1) (bitN v 2) (bitN v 3) (bitN v 4) (bitN v 5) (bitN v 6) n := ⟨_, rfl⟩
        obtain ⟨PZ, hPZ⟩ : ∃ x, x = packZ (bitN v 0) (bitN v 1) (bitN v 2) (bitN v 3) (bitN v 4) (bitN v 5) (bitN v 6) n := ⟨_, rfl⟩
        rw [← hPE, ← hPZ]
        have hG : goodB v = (decide (PE = 0) && decide (PZ = v)) := by unfold goodB; rw [hPE, hPZ, HN.out]
        have HPE := Lib.hid hPE
        have HPZ := Lib.hid hPZ
        have HG := Lib.hid hG
        clear hPE hPZ hG
        by_cases h3 : PE = 0
        · by_cases h4 : PZ = v
          · have hu : unpA v = #[.bool (bitN v 0), .bool (bitN v 1), .bool (bitN v 2), .bool (bitN v 3), .bool (bitN v 4), .bool (bitN v 5), .bool (bitN v 6), .int .i64 n] ∧ unpE v = 0 := by
              have hG : goodB v = true := by rw [HG.out, h3, h4]; simp
              constructor
              · unfold unpA; rw [if_pos ⟨by omega, hG⟩, upTo7, HN.out]
              · unfold unpE; rw [if_pos (Or.inr hG)]
            have HU := Lib.hid hu
            clear hu
            go_wp2_with fail
            have hF := row_fill8 (hZ'.grows ((Grows.refl _).grow g3)) (bitN v 0) (bitN v 1) (bitN v 2) (bitN v 3) (bitN v 4) (bitN v 5) (bitN v 6) n
            have hGF := grows_fill8 ((hg').grow g3) (Nat.le_refl w.heap.size) (bitN v 0) (bitN v 1) (bitN v 2) (bitN v 3) (bitN v 4) (bitN v 5) (bitN v 6) n
            unfold World.fill8 at hF hGF
            have hcF := hF.cell
            exact bodyPost_ret (v := .tuple #[.agg #[.bool (bitN v 0), .bool (bitN v 1), .bool (bitN v 2), .bool (bitN v 3), .bool (bitN v 4), .bool (bitN v 5), .bool (bitN v 6), .int .i64 n], .int .i64 0]) (by simp [results, Tryd.results82, go_sem, hcF]) rfl ⟨by rw [HU.out.1, HU.out.2] <;> first | rfl | (unfold zeroE; rfl), hGF⟩
          · have hu : unpA v = zeroE ∧ unpE v = 10 := by
              have hG : goodB v = false := by rw [HG.out]; simp [*]
              constructor
              · unfold unpA; rw [if_neg (by simp [hG])]
              · unfold unpE; rw [if_neg (by simp [hG]; omega)]
            have HU := Lib.hid hu
            clear hu
            go_wp2_with fail
            have hF := row_fill8 (hZ'.grows ((Grows.refl _).grow g3)) false false false false false false false 0
            have hGF := grows_fill8 ((hg').grow g3) (Nat.le_refl w.heap.size) false false false false false false false 0
            unfold World.fill8 at hF hGF
            have hcF := hF.cell
            exact bodyPost_ret (v := .tuple #[.agg #[.bool false, .bool false, .bool false, .bool false, .bool false, .bool false, .bool false, .int .i64 0], .int .i64 10]) (by simp [results, Tryd.results82, go_sem, hcF]) rfl ⟨by rw [HU.out.1, HU.out.2] <;> first | rfl | (unfold zeroE; rfl), hGF⟩
        · have hu : unpA v = zeroE ∧ unpE v = 10 := by
            have hG : goodB v = false := by rw [HG.out]; simp [*]
            constructor
            · unfold unpA; rw [if_neg (by simp [hG])]
            · unfold unpE; rw [if_neg (by simp [hG]; omega)]
          have HU := Lib.hid hu
          clear hu
          go_wp2_with fail
          have hF := row_fill8 (hZ'.grows ((Grows.refl _).grow g3)) false false false false false false false 0
          have hGF := grows_fill8 ((hg').grow g3) (Nat.le_refl w.heap.size) false false false false false false false 0
          unfold World.fill8 at hF hGF
          have hcF := hF.cell
          exact bodyPost_ret (v := .tuple #[.agg #[.bool false, .bool false, .bool false, .bool false, .bool false, .bool false, .bool false, .int .i64 0], .int .i64 10]) (by simp [results, Tryd.results82, go_sem, hcF]) rfl ⟨by rw [HU.out.1, HU.out.2] <;> first | rfl | (unfold zeroE; rfl), hGF⟩
end Go.Proofs.YtlchlklbjocliaaDoor

/- What Split and Join of the package entry, and of its reference, compute. -/
namespace Go.Proofs.YtlchlklbjocliaaDoor
open Go Go.RowKit
set_option linter.unusedSimpArgs false
set_option linter.unusedVariables false
set_option maxRecDepth 100000
theorem or_apart {x y : Int} {k : Nat} (h0 : 0 ≤ x) (h1 : x % 2 ^ k = 0) (h2 : 0 ≤ y ∧ y < 2 ^ k) (h3 : x < 9223372036854775808 ∧ k ≤ 62) : bits .or .u64 x y = x + y := by
  obtain ⟨X, rfl⟩ := Int.eq_ofNat_of_zero_le h0
  obtain ⟨Y, rfl⟩ := Int.eq_ofNat_of_zero_le h2.1
  have hk : 2 ^ k ≤ 2 ^ 62 := Nat.pow_le_pow_right (by omega) h3.2
  have hY : Y < 2 ^ k := by have := h2.2; exact_mod_cast this
  have hX : X % 2 ^ k = 0 := by exact_mod_cast h1
  have h4 := h3.1
  rw [u64_or_nat _ _ (by omega) (by omega)]
  have : X ||| Y = X + Y := by
    have e := Nat.div_add_mod X (2 ^ k)
    rw [hX, Nat.add_zero] at e
    rw [← e]
    exact (Nat.two_pow_add_eq_or_of_lt hY _).symm
  rw [this]
  omega
def joinZ (a b c : Int) : Int := if 0 ≤ a ∧ a ≤ 31 ∧ 0 ≤ b ∧ b ≤ 31 ∧ 0 ≤ c ∧ c ≤ 255 then a * 8192 + b * 256 + c else 0
def joinE (a b c : Int) : Int := if 0 ≤ a ∧ a ≤ 31 ∧ 0 ≤ b ∧ b ≤ 31 ∧ 0 ≤ c ∧ c ≤ 255 then 0 else 2
theorem split_any (v : Int) (hv0 : 0 ≤ v) (hv1 : v < 18446744073709551616) (w : World) :
    Calls Tryd.prog 69 #[.int .u64 v] w fun r w' => r = .returned (if v < 262144 then .tuple #[.int .i64 (v / 8192), .int .i64 (v / 256 % 32), .int .i64 (v % 256), .bool true] else .tuple #[.int .i64 0, .int .i64 0, .int .i64 0, .bool false]) ∧ Grows w w' := by
  have H := Lib.hid hv1
  have e1 : bits .and .u64 (v / 256) 31 = v / 256 % 32 := and_mask_u64 (n := 5) (by omega) (by omega) (by omega)
  have e2 : bits .and .u64 v 255 = v % 256 := and_mask_u64 (n := 8) hv0 hv1 (by omega)
  have e3 : wrap64 (bits .and .u64 (v / 256) 31) = v / 256 % 32 := by rw [e1]; exact wrap64_small (by omega) (by omega)
  have e4 : wrap64 (bits .and .u64 v 255) = v % 256 := by rw [e2]; exact wrap64_small (by omega) (by omega)
  have E3 := Lib.hid e3
  have E4 := Lib.hid e4
  clear e1 e2 e3 e4
  by_cases h : v < 262144
  · have h' : v / 262144 = 0 := by omega
    rw [if_pos h]
    go_enter Tryd.func69, Tryd.ntmps69
    go_wp2_with fail
    rw [E3.out, E4.out]
    exact bodyPost_ret (v := .tuple #[.int .i64 (v / 8192), .int .i64 (v / 256 % 32), .int .i64 (v % 256), .bool true]) (by simp [results, Tryd.results69, go_sem]) rfl ⟨rfl, Grows.refl _⟩
  · have h' : ¬ v / 262144 = 0 := by omega
    rw [if_neg h]
    go_enter Tryd.func69, Tryd.ntmps69
    go_wp2_with fail
    exact bodyPost_ret (v := .tuple #[.int .i64 0, .int .i64 0, .int .i64 0, .bool false]) (by simp [results, Tryd.results69, go_sem]) rfl ⟨rfl, Grows.refl _⟩
end Go.Proofs.YtlchlklbjocliaaDoor

/- The package walk over a memory: slot, get, One. -/
namespace Go.Proofs.YtlchlklbjocliaaDoor
open Go Go.RowKit
set_option linter.unusedSimpArgs false
set_option linter.unusedVariables false
set_option maxRecDepth 100000
/-- What an entry's number says, if it is an entry. -/
def gok (v : Nat) : Bool := decide (v % 2 = 1) && goodB v
def eb (v k : Nat) : Bool := gok v && bitN v k
def ef (v : Nat) : Nat := if gok v then v / 1024 % 65536 else 0
def entA (v : Nat) : Array Value := #[.bool (eb v 0), .bool (eb v 1), .bool (eb v 2), .bool (eb v 3), .bool (eb v 4), .bool (eb v 5), .bool (eb v 6), .int .i64 (ef v)]
theorem unpA_eq (v : Nat) : unpA v = entA v := by
  unfold unpA entA eb ef
  by_cases h : v % 2 = 1 ∧ goodB v = true
  · have hg : gok v = true := by unfold gok; simp [h.1, h.2]
    rw [if_pos h, upTo7]
    simp [hg]
  · have hg : gok v = false := by
      unfold gok
      by_cases h1 : v % 2 = 1
      · have : goodB v = false := by
          cases hh : goodB v
          · rfl
          · exact absurd ⟨h1, hh⟩ h
        simp [this]
      · simp [h1]
    rw [if_neg h]
    simp [hg, zeroE]
theorem ef_lt (v : Nat) : ef v < 65536 := by
  unfold ef
  split <;> omega
theorem bitN0 {v : Nat} (h : gok v = true) : bitN v 0 = true := by
  unfold gok at h
  simp only [Bool.and_eq_true, decide_eq_true_eq] at h
  unfold bitN
  simp
  omega
/-- The number that stands in a memory. -/
def gv (N : Nat) (B : Nat → Nat) (A : Nat) : Nat := if numE N A 8 = 0 then loadN (segB B A 8) else 0
theorem gok0 : gok 0 = false := by decide
theorem slot_any (w : World) {t p : Nat} (ht : t ≤ 1099511627776) (hp : p < 32) :
    Calls Tryd.prog 71 #[.int .i64 t, .int .i64 p] w fun r w' => r = .returned (.int .u64 ((t * 256 + 8 * p : Nat) : Int)) ∧ w' = w := by
  have e1 : IntKind.u64.wrap (t : Int) = t := wrap_u64_small (by omega) (by omega)
  have e2 : IntKind.u64.wrap (p : Int) = p := wrap_u64_small (by omega) (by omega)
  have e3 : IntKind.u64.wrap ((t : Int) * 256) = (t : Int) * 256 := wrap_u64_small (by omega) (by omega)
  have e4 : IntKind.u64.wrap (8 * (p : Int)) = 8 * (p : Int) := wrap_u64_small (by omega) (by omega)
  have e5 : IntKind.u64.wrap ((t : Int) * 256 + 8 * (p : Int)) = ((t * 256 + 8 * p : Nat) : Int) := by rw [wrap_u64_small (by omega) (by omega)]; omega
  clear ht hp
  go_enter Tryd.func71, Tryd.ntmps71
  go_wp2_with fail
  go_ret
  exact ⟨by rw [show ((t * 256 + 8 * p : Nat) : Int) = (t : Int) * 256 + 8 * (p : Int) by omega]; rfl, rfl⟩
theorem gok_of (v : Nat) : (if unpE v = 0 then (!(eb v 0 == false && (eb v 1 == false && (eb v 2 == false && (eb v 3 == false && (eb v 4 == false && (eb v 5 == false && (eb v 6 == false && (ef v : Int) == 0)))))))) else false) = gok v := by
  cases h : gok v
  · have e0 : ∀ k, eb v k = false := fun k => by unfold eb; rw [h]; rfl
    have e1 : ef v = 0 := by unfold ef; rw [h]; rfl
    rw [e0, e0, e0, e0, e0, e0, e0, e1]
    split <;> rfl
  · have e0 : eb v 0 = true := by unfold eb; rw [h, bitN0 h]; rfl
    have e1 : unpE v = 0 := by
      unfold gok at h
      simp only [Bool.and_eq_true, decide_eq_true_eq] at h
      unfold unpE
      rw [if_pos (Or.inr h.2)]
    rw [if_pos e1, e0]
    rfl
theorem neq_entry (a b c d e f g a' b' c' d' e' f' g' : Bool) (n n' : Int) (w : World) :
   (binOp .neq 111 (.agg #[.bool a, .bool b, .bool c, .bool d, .bool e, .bool f, .bool g, .int .i64 n]) (.agg #[.bool a', .bool b', .bool c', .bool d', .bool e', .bool f', .bool g', .int .i64 n'])).run Tryd.prog w =
   .ok (.bool (!(a == a' && (b == b' && (c == c' && (d == d' && (e == e' && (f == f' && (g == g' && n == n'))))))))) w := by
  simp [go_sem]
  iterate 8
    split
    rotate_left
    · simp_all
  simp_all
/-- A memory as a Reader. -/
def rdr (p : Nat) : Value := .iface 27 (.pointer (some ⟨p, 0, none⟩))
theorem get_any {w : World} {p q N : Nat} {B : Nat → Nat} (hW : Widths w) (hP : Places w) (h : Mem w p q N B) (A : Nat) (hA : A < 18446744073709551616) :
    Calls Tryd.prog 70 #[rdr p, .int .u64 A] w fun r w' => r = .returned (.tuple #[.agg (entA (gv N B A)), .bool (gok (gv N B A))]) ∧ Grows w w' := by
  unfold rdr
  by_cases he : numE N A 8 = 0
  · obtain ⟨K, hK, hk, ha, hn, h8, h0⟩ := numE_ok he
    obtain rfl : K = 8 := by omega
    have hld := fun W (hg : Grows w W) => Load_ok (hW.grows hg) (MemAt.grows h hg) A 8 hk ha hn
    have hgv : gv N B A = loadN (segB B A 8) := by unfold gv; rw [if_pos he]
    have hlt : loadN (segB B A 8) < 18446744073709551616 := by
      have h1 : ∀ x ∈ segB B A 8, x < 256 := segB_lt (n := N) (fun i hi => h.bts.byte hi) (by omega)
      have h2 := leN_lt h1
      rw [segB_length] at h2
      unfold loadN
      rw [if_neg (by rw [segB_length]; decide)]
      exact h2
    have hun := fun W (hg : Grows w W) => by have := unpack_any (loadN (segB B A 8)) hlt W (hP.grows hg); rw [unpA_eq] at this; exact this
    rw [hgv]
    have HLD := Lib.hid hld
    have HUN := Lib.hid hun
    clear hld hun he hk ha hn h8 h0 hK hgv hlt hW hP h
    generalize loadN (segB B A 8) = v at *
    have hm : ∀ w : World, (method 300 27 (.pointer (some ⟨p, 0, none⟩)) "Load").run Tryd.prog w = .ok (81, .pointer (some ⟨p, 0, none⟩)) w := fun _ => by kernel_rfl
    go_enter Tryd.func70, Tryd.ntmps70
    go_wp2_with fail
    refine (HLD.out _ ((Grows.refl w).alloc _)).mono ?_
    rintro _ w1 ⟨rfl, hg1⟩
    have hg1' := ((Grows.refl w).alloc (Obj.cells zeroE 111)).trans hg1
    have hr4 : Row w1 w.heap.size zeroE 111 := (Row.new w zeroE 111).grows hg1
    obtain ⟨b4, hb4⟩ : ∃ b, b = w.heap.size := ⟨_, rfl⟩
    rw [← hb4] at hr4 ⊢
    have HG1 := Lib.hid hg1'
    have HB4 := Lib.hid hb4
    have HR4 := Lib.hid hr4
    clear hg1 hg1' hr4 hb4 HLD
    go_wp2_with fail
    refine (HUN.out _ HG1.out).mono ?_
    rintro _ w2 ⟨rfl, hg2⟩
    have HGK := Lib.hid (gok_of v)
    have HEN := Lib.hid (show entA v = #[.bool (eb v 0), .bool (eb v 1), .bool (eb v 2), .bool (eb v 3), .bool (eb v 4), .bool (eb v 5), .bool (eb v 6), .int .i64 (ef v)] from rfl)
    rw [HEN.out]
    clear HUN hm hA
    generalize eb v 0 = a0 at *
    generalize eb v 1 = a1 at *
    generalize eb v 2 = a2 at *
    generalize eb v 3 = a3 at *
    generalize eb v 4 = a4 at *
    generalize eb v 5 = a5 at *
    generalize eb v 6 = a6 at *
    generalize (ef v : Int) = nn at *
    generalize unpE v = ee at *
    have hne := fun w => neq_entry a0 a1 a2 a3 a4 a5 a6 false false false false false false false nn 0 w
    generalize (!(a0 == false && (a1 == false && (a2 == false && (a3 == false && (a4 == false && (a5 == false && (a6 == false && nn == 0)))))))) = rb at *
    go_wp2_with fail
    obtain ⟨W3, hW3⟩ : ∃ W3, W3 = w2.alloc (Obj.cells #[.bool a0, .bool a1, .bool a2, .bool a3, .bool a4, .bool a5, .bool a6, .int .i64 nn] 111) := ⟨_, rfl⟩
    obtain ⟨b8, hb8⟩ : ∃ b, b = w2.heap.size := ⟨_, rfl⟩
    rw [← hW3, ← hb8]
    have hr8 : Row W3 b8 #[.bool a0, .bool a1, .bool a2, .bool a3, .bool a4, .bool a5, .bool a6, .int .i64 nn] 111 := by rw [hW3]; exact Row.new_at _ _ _ hb8
    have hg3 : Grows w2 W3 := by rw [hW3]; exact (Grows.refl _).alloc _
    have hr4 := (HR4.out.grows hg2).grows hg3
    have hg43 := (HG1.out.trans hg2).trans hg3
    have hbne : b4 ≠ b8 := by have := (HR4.out.grows hg2).lt; omega
    have l4 := hr4.lt
    have l8 := hr8.lt
    have c0 : W3.cell? ⟨b8, 0, none⟩ = some (.bool a0) := hr8.cell 0
    have c1 : W3.cell? ⟨b8, 1, none⟩ = some (.bool a1) := hr8.cell 1
    have c2 : W3.cell? ⟨b8, 2, none⟩ = some (.bool a2) := hr8.cell 2
    have c3 : W3.cell? ⟨b8, 3, none⟩ = some (.bool a3) := hr8.cell 3
    have c4 : W3.cell? ⟨b8, 4, none⟩ = some (.bool a4) := hr8.cell 4
    have c5 : W3.cell? ⟨b8, 5, none⟩ = some (.bool a5) := hr8.cell 5
    have c6 : W3.cell? ⟨b8, 6, none⟩ = some (.bool a6) := hr8.cell 6
    have c7 : W3.cell? ⟨b8, 7, none⟩ = some (.int .i64 nn) := hr8.cell 7
    have f0 := hr4.frozen 0
    have f1 := hr4.frozen 1
    have f2 := hr4.frozen 2
    have f3 := hr4.frozen 3
    have f4 := hr4.frozen 4
    have f5 := hr4.frozen 5
    have f6 := hr4.frozen 6
    have f7 := hr4.frozen 7
    have k0 : W3.cell? ⟨b4, 0, none⟩ = some (.bool false) := hr4.cell 0
    have k1 : W3.cell? ⟨b4, 1, none⟩ = some (.bool false) := hr4.cell 1
    have k2 : W3.cell? ⟨b4, 2, none⟩ = some (.bool false) := hr4.cell 2
    have k3 : W3.cell? ⟨b4, 3, none⟩ = some (.bool false) := hr4.cell 3
    have k4 : W3.cell? ⟨b4, 4, none⟩ = some (.bool false) := hr4.cell 4
    have k5 : W3.cell? ⟨b4, 5, none⟩ = some (.bool false) := hr4.cell 5
    have k6 : W3.cell? ⟨b4, 6, none⟩ = some (.bool false) := hr4.cell 6
    have k7 : W3.cell? ⟨b4, 7, none⟩ = some (.int .i64 0) := hr4.cell 7
    have HG3 := Lib.hid hg43
    have HR43 := Lib.hid hr4
    clear hW3 hb8 hr8 hg2 hg3 hr4 hg43 HR4 HG1
    by_cases hee : ee = 0
    · subst hee
      have HGK' := Lib.hid (show rb = gok v by have := HGK.out; rwa [if_pos rfl] at this)
      clear HGK
      go_region
      all_goals
        go_wp2_with fail
        have hF := ((row_fill8 HR43.out a0 a1 a2 a3 a4 a5 a6 nn).grows ((Grows.refl _).drew)).cell
        unfold World.fill8 at hF
        exact bodyPost_ret (v := .tuple #[.agg #[.bool a0, .bool a1, .bool a2, .bool a3, .bool a4, .bool a5, .bool a6, .int .i64 nn], .bool rb]) (by simp [results, Tryd.results70, go_sem, hF]) rfl ⟨by rw [HEN.out, ← HGK'.out], (grows_fill8 HG3.out (by have := HB4.out; omega) _ _ _ _ _ _ _ _).drew⟩
    · have d1 : (ee == 0) = false := by simp [hee]
      have HGK' := Lib.hid (show false = gok v by have := HGK.out; rwa [if_neg hee] at this)
      clear HGK hee
      go_region
      all_goals
        go_wp2_with fail
        have hF := ((row_fill8 HR43.out a0 a1 a2 a3 a4 a5 a6 nn).grows ((Grows.refl _).drew)).cell
        unfold World.fill8 at hF
        exact bodyPost_ret (v := .tuple #[.agg #[.bool a0, .bool a1, .bool a2, .bool a3, .bool a4, .bool a5, .bool a6, .int .i64 nn], .bool false]) (by simp [results, Tryd.results70, go_sem, hF]) rfl ⟨by rw [HEN.out, ← HGK'.out], (grows_fill8 HG3.out (by have := HB4.out; omega) _ _ _ _ _ _ _ _).drew⟩
  · have hld := fun W (hg : Grows w W) => Load_bad (MemAt.grows h hg) A 8 hA he
    have hgv : gv N B A = 0 := by unfold gv; rw [if_neg he]
    rw [hgv]
    have hE : (numE N A 8 != 0) = true := by simp [he]
    have HLD := Lib.hid hld
    have HEN := Lib.hid (show entA 0 = zeroE by simp [entA, eb, ef, gok0, zeroE])
    clear hld he hgv hW hP h
    generalize numE N A 8 = ee at *
    have hm : ∀ w : World, (method 300 27 (.pointer (some ⟨p, 0, none⟩)) "Load").run Tryd.prog w = .ok (81, .pointer (some ⟨p, 0, none⟩)) w := fun _ => by kernel_rfl
    go_enter Tryd.func70, Tryd.ntmps70
    go_wp2_with fail
    refine (HLD.out _ ((Grows.refl w).alloc _)).mono ?_
    rintro _ w1 ⟨rfl, hg1⟩
    have hg1' := ((Grows.refl w).alloc (Obj.cells zeroE 111)).trans hg1
    have hr4 : Row w1 w.heap.size zeroE 111 := (Row.new w zeroE 111).grows hg1
    obtain ⟨b4, hb4⟩ : ∃ b, b = w.heap.size := ⟨_, rfl⟩
    rw [← hb4] at hr4 ⊢
    have f0 := hr4.frozen 0
    have f1 := hr4.frozen 1
    have f2 := hr4.frozen 2
    have f3 := hr4.frozen 3
    have f4 := hr4.frozen 4
    have f5 := hr4.frozen 5
    have f6 := hr4.frozen 6
    have f7 := hr4.frozen 7
    have k0 : w1.cell? ⟨b4, 0, none⟩ = some (.bool false) := hr4.cell 0
    have k1 : w1.cell? ⟨b4, 1, none⟩ = some (.bool false) := hr4.cell 1
    have k2 : w1.cell? ⟨b4, 2, none⟩ = some (.bool false) := hr4.cell 2
    have k3 : w1.cell? ⟨b4, 3, none⟩ = some (.bool false) := hr4.cell 3
    have k4 : w1.cell? ⟨b4, 4, none⟩ = some (.bool false) := hr4.cell 4
    have k5 : w1.cell? ⟨b4, 5, none⟩ = some (.bool false) := hr4.cell 5
    have k6 : w1.cell? ⟨b4, 6, none⟩ = some (.bool false) := hr4.cell 6
    have k7 : w1.cell? ⟨b4, 7, none⟩ = some (.int .i64 0) := hr4.cell 7
    have HG1 := Lib.hid hg1'
    have HB4 := Lib.hid hb4
    have HR4 := Lib.hid hr4
    clear hg1 hg1' hr4 hb4 HLD
    go_wp2_with fail
    have hF := (row_fill8 HR4.out false false false false false false false 0).cell
    unfold World.fill8 at hF
    exact bodyPost_ret (v := .tuple #[.agg zeroE, .bool false]) (by simp [results, Tryd.results70, go_sem, hF, zeroE]) rfl ⟨by rw [HEN.out, gok0], grows_fill8 HG1.out (by have := HB4.out; omega) _ _ _ _ _ _ _ _⟩
end Go.Proofs.YtlchlklbjocliaaDoor

