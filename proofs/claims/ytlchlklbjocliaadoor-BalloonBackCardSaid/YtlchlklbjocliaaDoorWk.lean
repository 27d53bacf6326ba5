/- The package walk over a memory: slot, get, One. -/
import Derived.Test.YtlchlklbjocliaaDoorMem
import Derived.Test.YtlchlklbjocliaaDoorEntU
import Derived.Test.YtlchlklbjocliaaDoorEntS
import Derived.Test.YtlchlklbjocliaaDoorEnt
import Derived.BigRegion
namespace Go.Proofs.YtlchlklbjocliaaDoor
open Go Go.RowKit
set_option linter.unusedSimpArgs false
set_option linter.unusedVariables false
set_option maxRecDepth 100000
/-- What an entry's number says, if it is an entry. -/
def gok (v : Nat) : Bool := decide (v % 2 = 1) && goodB v
def eb (v k : Nat) : Bool := gok v && bitN v k
def ef (v : Nat) : Nat := if gok v then v / 1024 % 65536 else 0
def entA (v : Nat) : Array Value := #[.bool (eb v 0), .bool (eb v 1), .bool (eb v 2), .bool (eb v 3), .bool (eb v 4), .bool (eb v 5), .bool (eb v 6), .int .i64 (ef v)]
theorem unpA_eq (v : Nat) : unpA v = entA v := by
  unfold unpA entA eb ef
  by_cases h : v % 2 = 1 ∧ goodB v = true
  · have hg : gok v = true := by unfold gok; simp [h.1, h.2]
    rw [if_pos h, upTo7]
    simp [hg]
  · have hg : gok v = false := by
      unfold gok
      by_cases h1 : v % 2 = 1
      · have : goodB v = false := by
          cases hh : goodB v
          · rfl
          · exact absurd ⟨h1, hh⟩ h
        simp [this]
      · simp [h1]
    rw [if_neg h]
    simp [hg, zeroE]
theorem ef_lt (v : Nat) : ef v < 65536 := by
  unfold ef
  split <;> omega
theorem bitN0 {v : Nat} (h : gok v = true) : bitN v 0 = true := by
  unfold gok at h
  simp only [Bool.and_eq_true, decide_eq_true_eq] at h
  unfold bitN
  simp
  omega
/-- The number that stands in a memory. -/
def gv (N : Nat) (B : Nat → Nat) (A : Nat) : Nat := if numE N A 8 = 0 then loadN (segB B A 8) else 0
theorem gok0 : gok 0 = false := by decide
theorem slot_any (w : World) {t p : Nat} (ht : t ≤ 1099511627776) (hp : p < 32) :
    Calls Tryd.prog 71 #[.int .i64 t, .int .i64 p] w fun r w' => r = .returned (.int .u64 ((t * 256 + 8 * p : Nat) : Int)) ∧ w' = w := by
  have e1 : IntKind.u64.wrap (t : Int) = t := wrap_u64_small (by omega) (by omega)
  have e2 : IntKind.u64.wrap (p : Int) = p := wrap_u64_small (by omega) (by omega)
  have e3 : IntKind.u64.wrap ((t : Int) * 256) = (t : Int) * 256 := wrap_u64_small (by omega) (by omega)
  have e4 : IntKind.u64.wrap (8 * (p : Int)) = 8 * (p : Int) := wrap_u64_small (by omega) (by omega)
  have e5 : IntKind.u64.wrap ((t : Int) * 256 + 8 * (p : Int)) = ((t * 256 + 8 * p : Nat) : Int) := by rw [wrap_u64_small (by omega) (by omega)]; omega
  clear ht hp
  go_enter Tryd.func71, Tryd.ntmps71
  go_wp2_with fail
  go_ret
  exact ⟨by rw [show ((t * 256 + 8 * p : Nat) : Int) = (t : Int) * 256 + 8 * (p : Int) by omega]; rfl, rfl⟩
theorem gok_of (v : Nat) : (if unpE v = 0 then (!(eb v 0 == false && (eb v 1 == false && (eb v 2 == false && (eb v 3 == false && (eb v 4 == false && (eb v 5 == false && (eb v 6 == false && (ef v : Int) == 0)))))))) else false) = gok v := by
  cases h : gok v
  · have e0 : ∀ k, eb v k = false := fun k => by unfold eb; rw [h]; rfl
    have e1 : ef v = 0 := by unfold ef; rw [h]; rfl
    rw [e0, e0, e0, e0, e0, e0, e0, e1]
    split <;> rfl
  · have e0 : eb v 0 = true := by unfold eb; rw [h, bitN0 h]; rfl
    have e1 : unpE v = 0 := by
      unfold gok at h
      simp only [Bool.and_eq_true, decide_eq_true_eq] at h
      unfold unpE
      rw [if_pos (Or.inr h.2)]
    rw [if_pos e1, e0]
    rfl
theorem neq_entry (a b c d e f g a' b' c' d' e' f' g' : Bool) (n n' : Int) (w : World) :
   (binOp .neq 111 (.agg #[.bool a, .bool b, .bool c, .bool d, .bool e, .bool f, .bool g, .int .i64 n]) (.agg #[.bool a', .bool b', .bool c', .bool d', .bool e', .bool f', .bool g', .int .i64 n'])).run Tryd.prog w =
   .ok (.bool (!(a == a' && (b == b' && (c == c' && (d == d' && (e == e' && (f == f' && (g == g' && n == n'))))))))) w := by
  simp [go_sem]
  iterate 8
    split
    rotate_left
    · simp_all
  simp_all
/-- A memory as a Reader. -/
def rdr (p : Nat) : Value := .iface 27 (.pointer (some ⟨p, 0, none⟩))
theorem get_any {w : World} {p q N : Nat} {B : Nat → Nat} (hW : Widths w) (hP : Places w) (h : Mem w p q N B) (A : Nat) (hA : A < 18446744073709551616) :
    Calls Tryd.prog 70 #[rdr p, .int .u64 A] w fun r w' => r = .returned (.tuple #[.agg (entA (gv N B A)), .bool (gok (gv N B A))]) ∧ Grows w w' := by
  unfold rdr
  by_cases he : numE N A 8 = 0
  · obtain ⟨K, hK, hk, ha, hn, h8, h0⟩ := numE_ok he
    obtain rfl : K = 8 := by omega
    have hld := fun W (hg : Grows w W) => Load_ok (hW.grows hg) (MemAt.grows h hg) A 8 hk ha hn
    have hgv : gv N B A = loadN (segB B A 8) := by unfold gv; rw [if_pos he]
    have hlt : loadN (segB B A 8) < 18446744073709551616 := by
      have h1 : ∀ x ∈ segB B A 8, x < 256 := segB_lt (n := N) (fun i hi => h.bts.byte hi) (by omega)
      have h2 := leN_lt h1
      rw [segB_length] at h2
      unfold loadN
      rw [if_neg (by rw [segB_length]; decide)]
      exact h2
    have hun := fun W (hg : Grows w W) => by have := unpack_any (loadN (segB B A 8)) hlt W (hP.grows hg); rw [unpA_eq] at this; exact this
    rw [hgv]
    have HLD := Lib.hid hld
    have HUN := Lib.hid hun
    clear hld hun he hk ha hn h8 h0 hK hgv hlt hW hP h
    generalize loadN (segB B A 8) = v at *
    have hm : ∀ w : World, (method 300 27 (.pointer (some ⟨p, 0, none⟩)) "Load").run Tryd.prog w = .ok (81, .pointer (some ⟨p, 0, none⟩)) w := fun _ => by kernel_rfl
    go_enter Tryd.func70, Tryd.ntmps70
    go_wp2_with fail
    refine (HLD.out _ ((Grows.refl w).alloc _)).mono ?_
    rintro _ w1 ⟨rfl, hg1⟩
    have hg1' := ((Grows.refl w).alloc (Obj.cells zeroE 111)).trans hg1
    have hr4 : Row w1 w.heap.size zeroE 111 := (Row.new w zeroE 111).grows hg1
    obtain ⟨b4, hb4⟩ : ∃ b, b = w.heap.size := ⟨_, rfl⟩
    rw [← hb4] at hr4 ⊢
    have HG1 := Lib.hid hg1'
    have HB4 := Lib.hid hb4
    have HR4 := Lib.hid hr4
    clear hg1 hg1' hr4 hb4 HLD
    go_wp2_with fail
    refine (HUN.out _ HG1.out).mono ?_
    rintro _ w2 ⟨rfl, hg2⟩
    have HGK := Lib.hid (gok_of v)
    have HEN := Lib.hid (show entA v = #[.bool (eb v 0), .bool (eb v 1), .bool (eb v 2), .bool (eb v 3), .bool (eb v 4), .bool (eb v 5), .bool (eb v 6), .int .i64 (ef v)] from rfl)
    rw [HEN.out]
    clear HUN hm hA
    generalize eb v 0 = a0 at *
    generalize eb v 1 = a1 at *
    generalize eb v 2 = a2 at *
    generalize eb v 3 = a3 at *
    generalize eb v 4 = a4 at *
    generalize eb v 5 = a5 at *
    generalize eb v 6 = a6 at *
    generalize (ef v : Int) = nn at *
    generalize unpE v = ee at *
    have hne := fun w => neq_entry a0 a1 a2 a3 a4 a5 a6 false false false false false false false nn 0 w
    generalize (!(a0 == false && (a1 == false && (a2 == false && (a3 == false && (a4 == false && (a5 == false && (a6 == false && nn == 0)))))))) = rb at *
    go_wp2_with fail
    obtain ⟨W3, hW3⟩ : ∃ W3, W3 = w2.alloc (Obj.cells #[.bool a0, .bool a1, .bool a2, .bool a3, .bool a4, .bool a5, .bool a6, .int .i64 nn] 111) := ⟨_, rfl⟩
    obtain ⟨b8, hb8⟩ : ∃ b, b = w2.heap.size := ⟨_, rfl⟩
    rw [← hW3, ← hb8]
    have hr8 : Row W3 b8 #[.bool a0, .bool a1, .bool a2, .bool a3, .bool a4, .bool a5, .bool a6, .int .i64 nn] 111 := by rw [hW3]; exact Row.new_at _ _ _ hb8
    have hg3 : Grows w2 W3 := by rw [hW3]; exact (Grows.refl _).alloc _
    have hr4 := (HR4.out.grows hg2).grows hg3
    have hg43 := (HG1.out.trans hg2).trans hg3
    have hbne : b4 ≠ b8 := by have := (HR4.out.grows hg2).lt; omega
    have l4 := hr4.lt
    have l8 := hr8.lt
    have c0 : W3.cell? ⟨b8, 0, none⟩ = some (.bool a0) := hr8.cell 0
    have c1 : W3.cell? ⟨b8, 1, none⟩ = some (.bool a1) := hr8.cell 1
    have c2 : W3.cell? ⟨b8, 2, none⟩ = some (.bool a2) := hr8.cell 2
    have c3 : W3.cell? ⟨b8, 3, none⟩ = some (.bool a3) := hr8.cell 3
    have c4 : W3.cell? ⟨b8, 4, none⟩ = some (.bool a4) := hr8.cell 4
    have c5 : W3.cell? ⟨b8, 5, none⟩ = some (.bool a5) := hr8.cell 5
    have c6 : W3.cell? ⟨b8, 6, none⟩ = some (.bool a6) := hr8.cell 6
    have c7 : W3.cell? ⟨b8, 7, none⟩ = some (.int .i64 nn) := hr8.cell 7
    have f0 := hr4.frozen 0
    have f1 := hr4.frozen 1
    have f2 := hr4.frozen 2
    have f3 := hr4.frozen 3
    have f4 := hr4.frozen 4
    have f5 := hr4.frozen 5
    have f6 := hr4.frozen 6
    have f7 := hr4.frozen 7
    have k0 : W3.cell? ⟨b4, 0, none⟩ = some (.bool false) := hr4.cell 0
    have k1 : W3.cell? ⟨b4, 1, none⟩ = some (.bool false) := hr4.cell 1
    have k2 : W3.cell? ⟨b4, 2, none⟩ = some (.bool false) := hr4.cell 2
    have k3 : W3.cell? ⟨b4, 3, none⟩ = some (.bool false) := hr4.cell 3
    have k4 : W3.cell? ⟨b4, 4, none⟩ = some (.bool false) := hr4.cell 4
    have k5 : W3.cell? ⟨b4, 5, none⟩ = some (.bool false) := hr4.cell 5
    have k6 : W3.cell? ⟨b4, 6, none⟩ = some (.bool false) := hr4.cell 6
    have k7 : W3.cell? ⟨b4, 7, none⟩ = some (.int .i64 0) := hr4.cell 7
    have HG3 := Lib.hid hg43
    have HR43 := Lib.hid hr4
    clear hW3 hb8 hr8 hg2 hg3 hr4 hg43 HR4 HG1
    by_cases hee : ee = 0
    · subst hee
      have HGK' := Lib.hid (show rb = gok v by have := HGK.out; rwa [if_pos rfl] at this)
      clear HGK
      go_region
      all_goals
        go_wp2_with fail
        have hF := ((row_fill8 HR43.out a0 a1 a2 a3 a4 a5 a6 nn).grows ((Grows.refl _).drew)).cell
        unfold World.fill8 at hF
        exact bodyPost_ret (v := .tuple #[.agg #[.bool a0, .bool a1, .bool a2, .bool a3, .bool a4, .bool a5, .bool a6, .int .i64 nn], .bool rb]) (by simp [results, Tryd.results70, go_sem, hF]) rfl ⟨by rw [HEN.out, ← HGK'.out], (grows_fill8 HG3.out (by have := HB4.out; omega) _ _ _ _ _ _ _ _).drew⟩
    · have d1 : (ee == 0) = false := by simp [hee]
      have HGK' := Lib.hid (show false = gok v by have := HGK.out; rwa [if_neg hee] at this)
      clear HGK hee
      go_region
      all_goals
        go_wp2_with fail
        have hF := ((row_fill8 HR43.out a0 a1 a2 a3 a4 a5 a6 nn).grows ((Grows.refl _).drew)).cell
        unfold World.fill8 at hF
        exact bodyPost_ret (v := .tuple #[.agg #[.bool a0, .bool a1, .bool a2, .bool a3, .bool a4, .bool a5, .bool a6, .int .i64 nn], .bool false]) (by simp [results, Tryd.results70, go_sem, hF]) rfl ⟨by rw [HEN.out, ← HGK'.out], (grows_fill8 HG3.out (by have := HB4.out; omega) _ _ _ _ _ _ _ _).drew⟩
  · have hld := fun W (hg : Grows w W) => Load_bad (MemAt.grows h hg) A 8 hA he
    have hgv : gv N B A = 0 := by unfold gv; rw [if_neg he]
    rw [hgv]
    have hE : (numE N A 8 != 0) = true := by simp [he]
    have HLD := Lib.hid hld
    have HEN := Lib.hid (show entA 0 = zeroE by simp [entA, eb, ef, gok0, zeroE])
    clear hld he hgv hW hP h
    generalize numE N A 8 = ee at *
    have hm : ∀ w : World, (method 300 27 (.pointer (some ⟨p, 0, none⟩)) "Load").run Tryd.prog w = .ok (81, .pointer (some ⟨p, 0, none⟩)) w := fun _ => by kernel_rfl
    go_enter Tryd.func70, Tryd.ntmps70
    go_wp2_with fail
    refine (HLD.out _ ((Grows.refl w).alloc _)).mono ?_
    rintro _ w1 ⟨rfl, hg1⟩
    have hg1' := ((Grows.refl w).alloc (Obj.cells zeroE 111)).trans hg1
    have hr4 : Row w1 w.heap.size zeroE 111 := (Row.new w zeroE 111).grows hg1
    obtain ⟨b4, hb4⟩ : ∃ b, b = w.heap.size := ⟨_, rfl⟩
    rw [← hb4] at hr4 ⊢
    have f0 := hr4.frozen 0
    have f1 := hr4.frozen 1
    have f2 := hr4.frozen 2
    have f3 := hr4.frozen 3
    have f4 := hr4.frozen 4
    have f5 := hr4.frozen 5
    have f6 := hr4.frozen 6
    have f7 := hr4.frozen 7
    have k0 : w1.cell? ⟨b4, 0, none⟩ = some (.bool false) := hr4.cell 0
    have k1 : w1.cell? ⟨b4, 1, none⟩ = some (.bool false) := hr4.cell 1
    have k2 : w1.cell? ⟨b4, 2, none⟩ = some (.bool false) := hr4.cell 2
    have k3 : w1.cell? ⟨b4, 3, none⟩ = some (.bool false) := hr4.cell 3
    have k4 : w1.cell? ⟨b4, 4, none⟩ = some (.bool false) := hr4.cell 4
    have k5 : w1.cell? ⟨b4, 5, none⟩ = some (.bool false) := hr4.cell 5
    have k6 : w1.cell? ⟨b4, 6, none⟩ = some (.bool false) := hr4.cell 6
    have k7 : w1.cell? ⟨b4, 7, none⟩ = some (.int .i64 0) := hr4.cell 7
    have HG1 := Lib.hid hg1'
    have HB4 := Lib.hid hb4
    have HR4 := Lib.hid hr4
    clear hg1 hg1' hr4 hb4 HLD
    go_wp2_with fail
    have hF := (row_fill8 HR4.out false false false false false false false 0).cell
    unfold World.fill8 at hF
    exact bodyPost_ret (v := .tuple #[.agg zeroE, .bool false]) (by simp [results, Tryd.results70, go_sem, hF, zeroE]) rfl ⟨by rw [HEN.out, gok0], grows_fill8 HG1.out (by have := HB4.out; omega) _ _ _ _ _ _ _ _⟩
end Go.Proofs.YtlchlklbjocliaaDoor
