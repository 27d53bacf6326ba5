/- What Pack, Unpack, Split and Join of the package entry, and of its reference, compute. -/
import Derived.Test.YtlchlklbjocliaaDoorProg
import Derived.Test.YtlchlklbjocliaaDoorBase
import Derived.Test.YtlchlklbjocliaaDoorEnt
import Derived.Test.YtlchlklbjocliaaDoorNum
import Derived.OpenShut
import Derived.Lib.Hide
import Derived.StillTailTactics
namespace Go.Proofs.YtlchlklbjocliaaDoor
open Go Go.RowKit
set_option linter.unusedSimpArgs false
set_option linter.unusedVariables false
set_option maxRecDepth 100000
theorem ite_okb {p : Prop} [Decidable p] (x : Bool) (w : World) : (if p then Result.ok (Value.bool x) w else Result.ok (Value.bool false) w) = Result.ok (Value.bool (decide p && x)) w := by
  by_cases h : p <;> simp [h]
theorem eq_entry (a b c d e f g a' b' c' d' e' f' g' : Bool) (n n' : Int) (w : World) :
   (binOp .eql 111 (.agg #[.bool a, .bool b, .bool c, .bool d, .bool e, .bool f, .bool g, .int .i64 n]) (.agg #[.bool a', .bool b', .bool c', .bool d', .bool e', .bool f', .bool g', .int .i64 n'])).run Tryd.prog w =
   .ok (.bool (a == a' && (b == b' && (c == c' && (d == d' && (e == e' && (f == f' && (g == g' && n == n')))))))) w := by
  simp [go_sem, ite_okb]
  rfl
theorem eq_rentry (a b c d e f g a' b' c' d' e' f' g' : Bool) (n n' : Int) (w : World) :
   (binOp .eql 173 (.agg #[.bool a, .bool b, .bool c, .bool d, .bool e, .bool f, .bool g, .int .i64 n]) (.agg #[.bool a', .bool b', .bool c', .bool d', .bool e', .bool f', .bool g', .int .i64 n'])).run Tryd.prog w =
   .ok (.bool (a == a' && (b == b' && (c == c' && (d == d' && (e == e' && (f == f' && (g == g' && n == n')))))))) w := by
  simp [go_sem, ite_okb]
  rfl
/-- May an entry be? -/
def rightB (a b c d e f g : Bool) (n : Int) : Bool :=
  if a then decide (0 ≤ n) && decide (n < 65536) && ((!b && !c && !d && !e && !f && !g) || ((b || d) && (b || !c)))
  else !b && (!c && (!d && (!e && (!f && (!g && n == 0)))))
set_option maxHeartbeats 1000000 in
theorem right_any (a b c d e f g : Bool) (n : Int) (w : World) :
    Calls Tryd.prog 92 #[.agg #[.bool a, .bool b, .bool c, .bool d, .bool e, .bool f, .bool g, .int .i64 n]] w fun r w' => r = .returned (.bool (rightB a b c d e f g n)) ∧ Grows w w' := by
  have he := eq_entry
  cases a
  · go_enter Tryd.func92, Tryd.ntmps92
    go_wp2_with fail
    go_ret
    exact ⟨by simp [rightB], ((Grows.refl _).alloc _).alloc _⟩
  · by_cases h0 : 0 ≤ n ∧ n < 65536
    · obtain ⟨h0, h1⟩ := h0
      have hd0 : decide (0 ≤ n) = true := decide_eq_true h0
      have hd1 : decide (n < 65536) = true := decide_eq_true h1
      cases b
      · cases d
        · cases hz : (!c && (!e && (!f && !g)))
          · have hz' : rightB true false c false e f g n = false := by
              rw [← hz]; unfold rightB; rw [hd0, hd1]; clear he hz hd0 hd1; cases c <;> cases e <;> cases f <;> cases g <;> rfl
            rw [hz']
            clear hz' hd0 hd1
            go_enter Tryd.func92, Tryd.ntmps92
            go_wp2_with fail
            refine (leaf_any _ _ _ _ _ _ _ _ _).mono ?_
            rintro _ w1 ⟨rfl, g1, rfl⟩
            go_wp2_with fail
            go_ret
            exact ⟨by simp, (((Grows.refl _).alloc _).alloc _).grow _⟩
          · have hz' : rightB true false c false e f g n = true := by
              rw [← hz]; unfold rightB; rw [hd0, hd1]; clear he hz hd0 hd1; cases c <;> cases e <;> cases f <;> cases g <;> rfl
            rw [hz']
            clear hz' hd0 hd1
            go_enter Tryd.func92, Tryd.ntmps92
            go_wp2_with fail
            go_ret
            exact ⟨by simp, ((Grows.refl _).alloc _).alloc _⟩
        · have hz' : rightB true false c true e f g n = !c := by simp [rightB, hd0, hd1]
          rw [hz']
          clear hz' hd0 hd1
          cases c
          all_goals
            go_enter Tryd.func92, Tryd.ntmps92
            go_wp2_with fail
            refine (leaf_any _ _ _ _ _ _ _ _ _).mono ?_
            rintro _ w1 ⟨rfl, g1, rfl⟩
            go_wp2_with fail
            go_ret
            exact ⟨by simp, (((Grows.refl _).alloc _).alloc _).grow _⟩
      · have hz' : rightB true true c d e f g n = true := by simp [rightB, hd0, hd1]
        rw [hz']
        clear hz' hd0 hd1
        go_enter Tryd.func92, Tryd.ntmps92
        go_wp2_with fail
        refine (leaf_any _ _ _ _ _ _ _ _ _).mono ?_
        rintro _ w1 ⟨rfl, g1, rfl⟩
        go_wp2_with fail
        go_ret
        exact ⟨by simp, (((Grows.refl _).alloc _).alloc _).grow _⟩
    · have hz' : rightB true b c d e f g n = false := by
        have : (decide (0 ≤ n) && decide (n < 65536)) = false := by simp; omega
        simp [rightB, this]
      rw [hz']
      clear hz'
      by_cases h2 : n < 0
      · go_enter Tryd.func92, Tryd.ntmps92
        go_wp2_with fail
        go_ret
        exact ⟨by simp, ((Grows.refl _).alloc _).alloc _⟩
      · have h3 : 65536 ≤ n := by omega
        go_enter Tryd.func92, Tryd.ntmps92
        go_wp2_with fail
        go_ret
        exact ⟨by simp, ((Grows.refl _).alloc _).alloc _⟩
def bit1 (b : Bool) : Nat := if b then 1 else 0
def flagsN (a b c d e f g : Bool) : Nat := bit1 a + 2 * bit1 b + 4 * bit1 c + 8 * bit1 d + 16 * bit1 e + 32 * bit1 f + 64 * bit1 g
def packZ (a b c d e f g : Bool) (n : Int) : Int := if rightB a b c d e f g n then n * 1024 + flagsN a b c d e f g else 0
def packE (a b c d e f g : Bool) (n : Int) : Int := if rightB a b c d e f g n then 0 else 10
theorem rightB_frame {a b c d e f g : Bool} {n : Int} (h : rightB a b c d e f g n = true) : 0 ≤ n ∧ n < 65536 := by
  unfold rightB at h
  cases a
  · simp at h; omega
  · simp at h; omega
theorem flags_any (b : Nat) (w : World) :
    Calls Tryd.prog 93 #[.pointer (some ⟨b, 0, none⟩)] w fun r w' => r = .returned (.agg #[.pointer (some ⟨b, 0, none⟩), .pointer (some ⟨b, 1, none⟩), .pointer (some ⟨b, 2, none⟩), .pointer (some ⟨b, 3, none⟩), .pointer (some ⟨b, 4, none⟩), .pointer (some ⟨b, 5, none⟩), .pointer (some ⟨b, 6, none⟩)]) ∧ Grows w w' := by
  go_enter Tryd.func93, Tryd.ntmps93
  go_wp2_with fail
  go_still_tail 22, (by kernel_rfl)
  change wpList _ _ _ _ _ (World.drew (w.alloc _))
  go_wp2_with fail
  exact bodyPost_ret (v := .agg #[.pointer (some ⟨b, 0, none⟩), .pointer (some ⟨b, 1, none⟩), .pointer (some ⟨b, 2, none⟩), .pointer (some ⟨b, 3, none⟩), .pointer (some ⟨b, 4, none⟩), .pointer (some ⟨b, 5, none⟩), .pointer (some ⟨b, 6, none⟩)]) (by simp [results, Tryd.results93, go_sem]) rfl ⟨rfl, ((Grows.refl _).alloc _).drew⟩
/-- The table of places lies where the program's text lays it. -/
def Places (w : World) : Prop := 0 < w.heap.size ∧ ∀ i, w.cell? ⟨0, i, none⟩ = #[Value.int .i64 0, .int .i64 1, .int .i64 2, .int .i64 3, .int .i64 4, .int .i64 5, .int .i64 6][i]?
theorem Places.grows {w w' : World} (h : Places w) (hg : Grows w w') : Places w' := ⟨hg.lt h.1, fun i => by rw [hg.cell h.1]; exact h.2 i⟩
/-- The first k flags as a number. -/
def flTo (a b c d e f g : Bool) : Nat → Nat
  | 0 => 0
  | 1 => bit1 a
  | 2 => bit1 a + 2 * bit1 b
  | 3 => bit1 a + 2 * bit1 b + 4 * bit1 c
  | 4 => bit1 a + 2 * bit1 b + 4 * bit1 c + 8 * bit1 d
  | 5 => bit1 a + 2 * bit1 b + 4 * bit1 c + 8 * bit1 d + 16 * bit1 e
  | 6 => bit1 a + 2 * bit1 b + 4 * bit1 c + 8 * bit1 d + 16 * bit1 e + 32 * bit1 f
  | _ => flagsN a b c d e f g
def flAt (a b c d e f g : Bool) : Nat → Bool
  | 0 => a
  | 1 => b
  | 2 => c
  | 3 => d
  | 4 => e
  | 5 => f
  | _ => g
theorem flTo_succ (a b c d e f g : Bool) {k : Nat} (hk : k < 7) : flTo a b c d e f g (k + 1) = flTo a b c d e f g k + bit1 (flAt a b c d e f g k) * 2 ^ k := by
  match k, hk with
  | 0, _ => simp [flTo, flAt]
  | 1, _ => simp [flTo, flAt]; omega
  | 2, _ => simp [flTo, flAt]; omega
  | 3, _ => simp [flTo, flAt]; omega
  | 4, _ => simp [flTo, flAt]; omega
  | 5, _ => simp [flTo, flAt]; omega
  | 6, _ => simp [flTo, flAt, flagsN]; omega
theorem bit1_le (b : Bool) : bit1 b ≤ 1 := by cases b <;> decide
theorem flTo_lt (a b c d e f g : Bool) {k : Nat} (hk : k ≤ 7) : flTo a b c d e f g k < 2 ^ k := by
  have ha := bit1_le a; have hb := bit1_le b; have hc := bit1_le c; have hd := bit1_le d; have he := bit1_le e; have hf := bit1_le f; have hg := bit1_le g
  match k, hk with
  | 0, _ => simp [flTo]
  | 1, _ => simp [flTo]; omega
  | 2, _ => simp [flTo]; omega
  | 3, _ => simp [flTo]; omega
  | 4, _ => simp [flTo]; omega
  | 5, _ => simp [flTo]; omega
  | 6, _ => simp [flTo]; omega
  | 7, _ => simp [flTo, flagsN]; omega
theorem cellAt (a b c d e f g : Bool) (n : Int) {k : Nat} (hk : k < 7) : #[Value.bool a, .bool b, .bool c, .bool d, .bool e, .bool f, .bool g, .int .i64 n][k]? = some (.bool (flAt a b c d e f g k)) := by
  match k, hk with
  | 0, _ => rfl
  | 1, _ => rfl
  | 2, _ => rfl
  | 3, _ => rfl
  | 4, _ => rfl
  | 5, _ => rfl
  | 6, _ => rfl
theorem placeAt {k : Nat} (hk : k < 7) : #[Value.int .i64 0, .int .i64 1, .int .i64 2, .int .i64 3, .int .i64 4, .int .i64 5, .int .i64 6][k]? = some (.int .i64 k) := by
  match k, hk with
  | 0, _ => rfl
  | 1, _ => rfl
  | 2, _ => rfl
  | 3, _ => rfl
  | 4, _ => rfl
  | 5, _ => rfl
  | 6, _ => rfl
theorem step_bit (N k F : Nat) (hk : k < 7) (hF : F < 2 ^ k) : (N * 1024 + F) ||| 2 ^ k = N * 1024 + (F + 1 * 2 ^ k) := by
  have h1 : (N * 1024 + F) / 2 ^ k % 2 = 0 := by
    have : k = 0 ∨ k = 1 ∨ k = 2 ∨ k = 3 ∨ k = 4 ∨ k = 5 ∨ k = 6 := by omega
    rcases this with rfl | rfl | rfl | rfl | rfl | rfl | rfl <;> simp only [Nat.reducePow] at * <;> omega
  rw [nat_or_bit h1, Nat.one_mul, Nat.add_assoc]
theorem step_or {N k F M : Nat} {p : Int} (hk : k < 7) (hF : F < 2 ^ k) (hN : N < 65536) (hM : M = N * 1024 + F) (hp : p = ((2 ^ k : Nat) : Int)) : bits .or .u64 (M : Int) p = ((N * 1024 + (F + 1 * 2 ^ k) : Nat) : Int) := by
  have h1 : 2 ^ k ≤ 2 ^ 6 := Nat.pow_le_pow_right (by omega) (by omega)
  rw [hp, u64_or_nat _ _ (by omega) (by omega), hM, step_bit N k F hk hF]
set_option maxHeartbeats 2000000 in
theorem pack_any (a b c d e f g : Bool) (n : Int) (w : World) (hT : Places w) :
    Calls Tryd.prog 78 #[.agg #[.bool a, .bool b, .bool c, .bool d, .bool e, .bool f, .bool g, .int .i64 n]] w fun r w' => r = .returned (.tuple #[.int .u64 (packZ a b c d e f g n), .int .i64 (packE a b c d e f g n)]) ∧ Grows w w' := by
  cases hr : rightB a b c d e f g n
  · go_enter Tryd.func78, Tryd.ntmps78
    go_wp2_with fail
    refine (right_any _ _ _ _ _ _ _ _ _).mono ?_
    rintro _ w1 ⟨rfl, g1, rfl⟩
    rw [hr]
    go_wp2_with fail
    go_ret2
    exact ⟨by simp [packZ, packE, hr], ((Grows.refl _).alloc _).grow _⟩
  · obtain ⟨n0, n1⟩ := rightB_frame hr
    go_enter Tryd.func78, Tryd.ntmps78
    go_wp2_with fail
    refine (right_any _ _ _ _ _ _ _ _ _).mono ?_
    rintro _ w1 ⟨rfl, g1, rfl⟩
    rw [hr]
    go_wp2_with fail
    refine (flags_any _ _).mono ?_
    rintro _ w2 ⟨rfl, g2, rfl⟩
    go_wp2_with fail
    obtain ⟨W, hW⟩ : ∃ W, W = (w.alloc (Obj.cells #[.bool a, .bool b, .bool c, .bool d, .bool e, .bool f, .bool g, .int .i64 n] 111)).grow (g1.join g2) := ⟨_, rfl⟩
    rw [← hW]
    have hg : Grows w W := by rw [hW]; exact ((Grows.refl _).alloc _).grow _
    have hc : ∀ i, W.cell? ⟨w.heap.size, i, none⟩ = #[Value.bool a, .bool b, .bool c, .bool d, .bool e, .bool f, .bool g, .int .i64 n][i]? := by
      intro i; rw [hW, World.cell?_grow _ _ (by simp), World.cell?_alloc_at _ _ _ _ rfl]
    obtain ⟨_, hP⟩ := hT.grows hg
    clear hW hT
    obtain ⟨N, rfl⟩ := Int.eq_ofNat_of_zero_le n0
    have N1 := Lib.hid n1
    clear n1
    have HC := Lib.hid hc
    have HP := Lib.hid hP
    clear hc hP
    go_loopw [4, 15] (fun v i wr => (∃ (k : Nat) (I : Int) (M : Nat), k ≤ 7 ∧ I = k ∧ M = N * 1024 + flTo a b c d e f g k ∧ i = .int .i64 I ∧ v = .int .u64 M) ∧ wr = W) (fun _ i _ => (7 - intOf i).toNat)
    case atStart => exact ⟨⟨0, 0, _, by omega, rfl, rfl, rfl, by simp [flTo]⟩, rfl⟩
    case round =>
      obtain ⟨⟨k, I, M, hk, hI, hM, rfl, rfl⟩, hwr⟩ := hrel
      subst hwr
      by_cases hlt : k < 7
      · have c0 : wr.cell? ⟨w.heap.size, k, none⟩ = some (.bool (flAt a b c d e f g k)) := by rw [HC.out, cellAt _ _ _ _ _ _ _ _ hlt]
        have p0 : wr.cell? ⟨0, k, none⟩ = some (.int .i64 k) := by rw [HP.out, placeAt hlt]
        have hl := flTo_lt a b c d e f g (k := k) (by omega)
        have HS := flTo_succ a b c d e f g hlt
        have HN := step_bit N k (flTo a b c d e f g k) hlt hl
        have HM : Hid (M = N * 1024 + flTo a b c d e f g k ∧ ((N * 1024 + flTo a b c d e f g k) ||| 2 ^ k = N * 1024 + (flTo a b c d e f g k + 1 * 2 ^ k)) ∧ flTo a b c d e f g (k + 1) = flTo a b c d e f g k + bit1 (flAt a b c d e f g k) * 2 ^ k) := Lib.hid ⟨hM, HN, HS⟩
        clear hM hl HN HS
        rw [← hI] at p0
        cases hb : flAt a b c d e f g k
        · rw [hb] at c0 HM
          have : k = 0 ∨ k = 1 ∨ k = 2 ∨ k = 3 ∨ k = 4 ∨ k = 5 ∨ k = 6 := by omega
          rcases this with rfl | rfl | rfl | rfl | rfl | rfl | rfl
          · simp at hI
            subst hI
            have i0 : ∀ w', (Instr.index 167 (.agg #[.pointer (some ⟨w.heap.size, 0, none⟩), .pointer (some ⟨w.heap.size, 1, none⟩), .pointer (some ⟨w.heap.size, 2, none⟩), .pointer (some ⟨w.heap.size, 3, none⟩), .pointer (some ⟨w.heap.size, 4, none⟩), .pointer (some ⟨w.heap.size, 5, none⟩), .pointer (some ⟨w.heap.size, 6, none⟩)]) (.int .i64 0)).run Tryd.prog w' = .ok (.pointer (some ⟨w.heap.size, 0, none⟩)) w' := fun _ => by kernel_rfl
            go_wp2_with fail
            obtain ⟨h1, h2, h3⟩ := HM.out
            exact ⟨⟨⟨1, 1, M, by omega, rfl, by rw [h1, h3]; simp [bit1], rfl, rfl⟩, trivial⟩, by decide⟩
          · simp at hI
            subst hI
            have i0 : ∀ w', (Instr.index 167 (.agg #[.pointer (some ⟨w.heap.size, 0, none⟩), .pointer (some ⟨w.heap.size, 1, none⟩), .pointer (some ⟨w.heap.size, 2, none⟩), .pointer (some ⟨w.heap.size, 3, none⟩), .pointer (some ⟨w.heap.size, 4, none⟩), .pointer (some ⟨w.heap.size, 5, none⟩), .pointer (some ⟨w.heap.size, 6, none⟩)]) (.int .i64 1)).run Tryd.prog w' = .ok (.pointer (some ⟨w.heap.size, 1, none⟩)) w' := fun _ => by kernel_rfl
            go_wp2_with fail
            obtain ⟨h1, h2, h3⟩ := HM.out
            exact ⟨⟨⟨2, 2, M, by omega, rfl, by rw [h1, h3]; simp [bit1], rfl, rfl⟩, trivial⟩, by decide⟩
          · simp at hI
            subst hI
            have i0 : ∀ w', (Instr.index 167 (.agg #[.pointer (some ⟨w.heap.size, 0, none⟩), .pointer (some ⟨w.heap.size, 1, none⟩), .pointer (some ⟨w.heap.size, 2, none⟩), .pointer (some ⟨w.heap.size, 3, none⟩), .pointer (some ⟨w.heap.size, 4, none⟩), .pointer (some ⟨w.heap.size, 5, none⟩), .pointer (some ⟨w.heap.size, 6, none⟩)]) (.int .i64 2)).run Tryd.prog w' = .ok (.pointer (some ⟨w.heap.size, 2, none⟩)) w' := fun _ => by kernel_rfl
            go_wp2_with fail
            obtain ⟨h1, h2, h3⟩ := HM.out
            exact ⟨⟨⟨3, 3, M, by omega, rfl, by rw [h1, h3]; simp [bit1], rfl, rfl⟩, trivial⟩, by decide⟩
          · simp at hI
            subst hI
            have i0 : ∀ w', (Instr.index 167 (.agg #[.pointer (some ⟨w.heap.size, 0, none⟩), .pointer (some ⟨w.heap.size, 1, none⟩), .pointer (some ⟨w.heap.size, 2, none⟩), .pointer (some ⟨w.heap.size, 3, none⟩), .pointer (some ⟨w.heap.size, 4, none⟩), .pointer (some ⟨w.heap.size, 5, none⟩), .pointer (some ⟨w.heap.size, 6, none⟩)]) (.int .i64 3)).run Tryd.prog w' = .ok (.pointer (some ⟨w.heap.size, 3, none⟩)) w' := fun _ => by kernel_rfl
            go_wp2_with fail
            obtain ⟨h1, h2, h3⟩ := HM.out
            exact ⟨⟨⟨4, 4, M, by omega, rfl, by rw [h1, h3]; simp [bit1], rfl, rfl⟩, trivial⟩, by decide⟩
          · simp at hI
            subst hI
            have i0 : ∀ w', (Instr.index 167 (.agg #[.pointer (some ⟨w.heap.size, 0, none⟩), .pointer (some ⟨w.heap.size, 1, none⟩), .pointer (some ⟨w.heap.size, 2, none⟩), .pointer (some ⟨w.heap.size, 3, none⟩), .pointer (some ⟨w.heap.size, 4, none⟩), .pointer (some ⟨w.heap.size, 5, none⟩), .pointer (some ⟨w.heap.size, 6, none⟩)]) (.int .i64 4)).run Tryd.prog w' = .ok (.pointer (some ⟨w.heap.size, 4, none⟩)) w' := fun _ => by kernel_rfl
            go_wp2_with fail
            obtain ⟨h1, h2, h3⟩ := HM.out
            exact ⟨⟨⟨5, 5, M, by omega, rfl, by rw [h1, h3]; simp [bit1], rfl, rfl⟩, trivial⟩, by decide⟩
          · simp at hI
            subst hI
            have i0 : ∀ w', (Instr.index 167 (.agg #[.pointer (some ⟨w.heap.size, 0, none⟩), .pointer (some ⟨w.heap.size, 1, none⟩), .pointer (some ⟨w.heap.size, 2, none⟩), .pointer (some ⟨w.heap.size, 3, none⟩), .pointer (some ⟨w.heap.size, 4, none⟩), .pointer (some ⟨w.heap.size, 5, none⟩), .pointer (some ⟨w.heap.size, 6, none⟩)]) (.int .i64 5)).run Tryd.prog w' = .ok (.pointer (some ⟨w.heap.size, 5, none⟩)) w' := fun _ => by kernel_rfl
            go_wp2_with fail
            obtain ⟨h1, h2, h3⟩ := HM.out
            exact ⟨⟨⟨6, 6, M, by omega, rfl, by rw [h1, h3]; simp [bit1], rfl, rfl⟩, trivial⟩, by decide⟩
          · simp at hI
            subst hI
            have i0 : ∀ w', (Instr.index 167 (.agg #[.pointer (some ⟨w.heap.size, 0, none⟩), .pointer (some ⟨w.heap.size, 1, none⟩), .pointer (some ⟨w.heap.size, 2, none⟩), .pointer (some ⟨w.heap.size, 3, none⟩), .pointer (some ⟨w.heap.size, 4, none⟩), .pointer (some ⟨w.heap.size, 5, none⟩), .pointer (some ⟨w.heap.size, 6, none⟩)]) (.int .i64 6)).run Tryd.prog w' = .ok (.pointer (some ⟨w.heap.size, 6, none⟩)) w' := fun _ => by kernel_rfl
            go_wp2_with fail
            obtain ⟨h1, h2, h3⟩ := HM.out
            exact ⟨⟨⟨7, 7, M, by omega, rfl, by rw [h1, h3]; simp [bit1], rfl, rfl⟩, trivial⟩, by decide⟩
        · rw [hb] at c0 HM
          have : k = 0 ∨ k = 1 ∨ k = 2 ∨ k = 3 ∨ k = 4 ∨ k = 5 ∨ k = 6 := by omega
          rcases this with rfl | rfl | rfl | rfl | rfl | rfl | rfl
          · simp at hI
            subst hI
            have i0 : ∀ w', (Instr.index 167 (.agg #[.pointer (some ⟨w.heap.size, 0, none⟩), .pointer (some ⟨w.heap.size, 1, none⟩), .pointer (some ⟨w.heap.size, 2, none⟩), .pointer (some ⟨w.heap.size, 3, none⟩), .pointer (some ⟨w.heap.size, 4, none⟩), .pointer (some ⟨w.heap.size, 5, none⟩), .pointer (some ⟨w.heap.size, 6, none⟩)]) (.int .i64 0)).run Tryd.prog w' = .ok (.pointer (some ⟨w.heap.size, 0, none⟩)) w' := fun _ => by kernel_rfl
            go_wp2_with fail
            obtain ⟨h1, h2, h3⟩ := HM.out
            have h4 := step_or (p := 1) hlt (flTo_lt a b c d e f g (by omega)) (by have := N1.out; omega) h1 rfl
            exact ⟨⟨⟨1, 1, _, by omega, rfl, rfl, rfl, by rw [h3, h4]; simp [bit1]⟩, trivial⟩, by decide⟩
          · simp at hI
            subst hI
            have i0 : ∀ w', (Instr.index 167 (.agg #[.pointer (some ⟨w.heap.size, 0, none⟩), .pointer (some ⟨w.heap.size, 1, none⟩), .pointer (some ⟨w.heap.size, 2, none⟩), .pointer (some ⟨w.heap.size, 3, none⟩), .pointer (some ⟨w.heap.size, 4, none⟩), .pointer (some ⟨w.heap.size, 5, none⟩), .pointer (some ⟨w.heap.size, 6, none⟩)]) (.int .i64 1)).run Tryd.prog w' = .ok (.pointer (some ⟨w.heap.size, 1, none⟩)) w' := fun _ => by kernel_rfl
            go_wp2_with fail
            obtain ⟨h1, h2, h3⟩ := HM.out
            have h4 := step_or (p := 2) hlt (flTo_lt a b c d e f g (by omega)) (by have := N1.out; omega) h1 rfl
            exact ⟨⟨⟨2, 2, _, by omega, rfl, rfl, rfl, by rw [h3, h4]; simp [bit1]⟩, trivial⟩, by decide⟩
          · simp at hI
            subst hI
            have i0 : ∀ w', (Instr.index 167 (.agg #[.pointer (some ⟨w.heap.size, 0, none⟩), .pointer (some ⟨w.heap.size, 1, none⟩), .pointer (some ⟨w.heap.size, 2, none⟩), .pointer (some ⟨w.heap.size, 3, none⟩), .pointer (some ⟨w.heap.size, 4, none⟩), .pointer (some ⟨w.heap.size, 5, none⟩), .pointer (some ⟨w.heap.size, 6, none⟩)]) (.int .i64 2)).run Tryd.prog w' = .ok (.pointer (some ⟨w.heap.size, 2, none⟩)) w' := fun _ => by kernel_rfl
            go_wp2_with fail
            obtain ⟨h1, h2, h3⟩ := HM.out
            have h4 := step_or (p := 4) hlt (flTo_lt a b c d e f g (by omega)) (by have := N1.out; omega) h1 rfl
            exact ⟨⟨⟨3, 3, _, by omega, rfl, rfl, rfl, by rw [h3, h4]; simp [bit1]⟩, trivial⟩, by decide⟩
          · simp at hI
            subst hI
            have i0 : ∀ w', (Instr.index 167 (.agg #[.pointer (some ⟨w.heap.size, 0, none⟩), .pointer (some ⟨w.heap.size, 1, none⟩), .pointer (some ⟨w.heap.size, 2, none⟩), .pointer (some ⟨w.heap.size, 3, none⟩), .pointer (some ⟨w.heap.size, 4, none⟩), .pointer (some ⟨w.heap.size, 5, none⟩), .pointer (some ⟨w.heap.size, 6, none⟩)]) (.int .i64 3)).run Tryd.prog w' = .ok (.pointer (some ⟨w.heap.size, 3, none⟩)) w' := fun _ => by kernel_rfl
            go_wp2_with fail
            obtain ⟨h1, h2, h3⟩ := HM.out
            have h4 := step_or (p := 8) hlt (flTo_lt a b c d e f g (by omega)) (by have := N1.out; omega) h1 rfl
            exact ⟨⟨⟨4, 4, _, by omega, rfl, rfl, rfl, by rw [h3, h4]; simp [bit1]⟩, trivial⟩, by decide⟩
          · simp at hI
            subst hI
            have i0 : ∀ w', (Instr.index 167 (.agg #[.pointer (some ⟨w.heap.size, 0, none⟩), .pointer (some ⟨w.heap.size, 1, none⟩), .pointer (some ⟨w.heap.size, 2, none⟩), .pointer (some ⟨w.heap.size, 3, none⟩), .pointer (some ⟨w.heap.size, 4, none⟩), .pointer (some ⟨w.heap.size, 5, none⟩), .pointer (some ⟨w.heap.size, 6, none⟩)]) (.int .i64 4)).run Tryd.prog w' = .ok (.pointer (some ⟨w.heap.size, 4, none⟩)) w' := fun _ => by kernel_rfl
            go_wp2_with fail
            obtain ⟨h1, h2, h3⟩ := HM.out
            have h4 := step_or (p := 16) hlt (flTo_lt a b c d e f g (by omega)) (by have := N1.out; omega) h1 rfl
            exact ⟨⟨⟨5, 5, _, by omega, rfl, rfl, rfl, by rw [h3, h4]; simp [bit1]⟩, trivial⟩, by decide⟩
          · simp at hI
            subst hI
            have i0 : ∀ w', (Instr.index 167 (.agg #[.pointer (some ⟨w.heap.size, 0, none⟩), .pointer (some ⟨w.heap.size, 1, none⟩), .pointer (some ⟨w.heap.size, 2, none⟩), .pointer (some ⟨w.heap.size, 3, none⟩), .pointer (some ⟨w.heap.size, 4, none⟩), .pointer (some ⟨w.heap.size, 5, none⟩), .pointer (some ⟨w.heap.size, 6, none⟩)]) (.int .i64 5)).run Tryd.prog w' = .ok (.pointer (some ⟨w.heap.size, 5, none⟩)) w' := fun _ => by kernel_rfl
            go_wp2_with fail
            obtain ⟨h1, h2, h3⟩ := HM.out
            have h4 := step_or (p := 32) hlt (flTo_lt a b c d e f g (by omega)) (by have := N1.out; omega) h1 rfl
            exact ⟨⟨⟨6, 6, _, by omega, rfl, rfl, rfl, by rw [h3, h4]; simp [bit1]⟩, trivial⟩, by decide⟩
          · simp at hI
            subst hI
            have i0 : ∀ w', (Instr.index 167 (.agg #[.pointer (some ⟨w.heap.size, 0, none⟩), .pointer (some ⟨w.heap.size, 1, none⟩), .pointer (some ⟨w.heap.size, 2, none⟩), .pointer (some ⟨w.heap.size, 3, none⟩), .pointer (some ⟨w.heap.size, 4, none⟩), .pointer (some ⟨w.heap.size, 5, none⟩), .pointer (some ⟨w.heap.size, 6, none⟩)]) (.int .i64 6)).run Tryd.prog w' = .ok (.pointer (some ⟨w.heap.size, 6, none⟩)) w' := fun _ => by kernel_rfl
            go_wp2_with fail
            obtain ⟨h1, h2, h3⟩ := HM.out
            have h4 := step_or (p := 64) hlt (flTo_lt a b c d e f g (by omega)) (by have := N1.out; omega) h1 rfl
            exact ⟨⟨⟨7, 7, _, by omega, rfl, rfl, rfl, by rw [h3, h4]; simp [bit1]⟩, trivial⟩, by decide⟩
      · have : k = 7 := by omega
        subst this
        simp at hI
        subst hI
        go_wp2_with fail
        go_ret2
        exact ⟨by simp [packZ, packE, hr, hM, flTo], hg⟩
end Go.Proofs.YtlchlklbjocliaaDoor
