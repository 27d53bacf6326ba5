/- Texts of one kind, laid together. -/
import Derived.Test.YtlchlklbjocliaaDoorMA
import Derived.Deep.MidRow
import Derived.Test.YtlchlklbjocliaaDoorMD
import Derived.Deep.Cut
import Derived.Test.YtlchlklbjocliaaDoorMH
import Derived.Test.YtlchlklbjocliaaDoorMK
/- A part of a row: read as a range, written as a whole. -/
namespace Go
open Go.RowKit
set_option linter.unusedSimpArgs false
set_option linter.unusedVariables false
set_option maxRecDepth 100000
theorem Row.range {w : World} {b : Nat} {c : Array Value} {t : TypeId} (h : Row w b c t) {o : Nat} {cs : List Value} (hc : ∀ (j : Nat) (v : Value), cs[j]? = some v → c[o + j]? = some v) : w.rangeAt b o cs := fun j v hv => by
  rw [h.cell]; exact hc j v hv
theorem Row.thereAt {w : World} {b : Nat} {c : Array Value} {t : TypeId} (h : Row w b c t) {o n : Nat} (hn : o + n ≤ c.size) : w.there b o n := fun j hj =>
  ⟨by rw [h.cell, Array.getElem?_eq_getElem (by omega)]; rfl, h.frozen _⟩
theorem Row.put {w : World} {b : Nat} {c : Array Value} {t : TypeId} (h : Row w b c t) (i : Nat) (v : Value) : Row (w.setCell ⟨b, i, none⟩ v) b (c.setIfInBounds i v) t := by
  by_cases hi : i < c.size
  · have := h.setCell (i := i) hi v
    rw [Array.setIfInBounds, dif_pos hi]
    exact this
  · rw [Array.setIfInBounds, dif_neg hi]
    have hr := h
    unfold Row at *
    show (w.heap.modify b _)[b]? = _
    rw [Array.getElem?_modify, if_pos rfl, hr]
    simp [Array.setIfInBounds, hi]
/-- vs written from o on. -/
def putA (c : Array Value) (o : Nat) : List Value → Array Value
  | [] => c
  | v :: r => putA (c.setIfInBounds o v) (o + 1) r
theorem Row.puts {b : Nat} {t : TypeId} : ∀ (vs : List Value) (o : Nat) (w : World) (c : Array Value), Row w b c t → Row (w.setCells b o vs) b (putA c o vs) t
  | [], _, _, _, h => h
  | v :: r, o, w, c, h => Row.puts r (o + 1) _ _ (h.put o v)
theorem putA_size : ∀ (vs : List Value) (o : Nat) (c : Array Value), (putA c o vs).size = c.size
  | [], _, _ => rfl
  | v :: r, o, c => by rw [putA, putA_size r]; simp
theorem putA_get : ∀ (vs : List Value) (o i : Nat) (c : Array Value), (putA c o vs)[i]? = if o ≤ i ∧ i < o + vs.length ∧ i < c.size then vs[i - o]? else c[i]?
  | [], o, i, c => by
    rw [if_neg (by simp; omega)]; rfl
  | v :: r, o, i, c => by
    rw [putA, putA_get r (o + 1) i]
    simp only [Array.size_setIfInBounds, List.length_cons]
    by_cases h1 : o + 1 ≤ i ∧ i < o + 1 + r.length ∧ i < c.size
    · rw [if_pos h1, if_pos (by omega)]
      rw [show i - o = (i - (o + 1)) + 1 by omega]; rfl
    · rw [if_neg h1, Array.getElem?_setIfInBounds]
      by_cases e : o = i
      · subst e
        by_cases hs : o < c.size
        · rw [if_pos rfl, if_pos hs, if_pos (by omega)]; simp
        · rw [if_pos rfl, if_neg hs, if_neg (by omega), Array.getElem?_eq_none (by omega)]
      · rw [if_neg e, if_neg (by omega)]
theorem putA_mid (pre mid post mid' : List Value) (h : mid'.length = mid.length) : putA (pre ++ mid ++ post).toArray pre.length mid' = (pre ++ mid' ++ post).toArray := by
  apply Array.ext_getElem?
  intro i
  rw [putA_get]
  simp only [List.getElem?_toArray, List.size_toArray, List.length_append]
  by_cases h1 : pre.length ≤ i ∧ i < pre.length + mid'.length ∧ i < pre.length + mid.length + post.length
  · rw [if_pos h1, List.append_assoc, List.getElem?_append_right (by omega), List.getElem?_append_left (by omega)]
  · rw [if_neg h1]
    by_cases h2 : i < pre.length
    · rw [List.append_assoc, List.append_assoc, List.getElem?_append_left h2, List.getElem?_append_left h2]
    · by_cases h3 : i < pre.length + mid.length + post.length
      · rw [List.getElem?_append_right (by simp; omega), List.getElem?_append_right (by simp; omega)]
        simp only [List.length_append, h]
      · rw [List.getElem?_eq_none (by simp; omega), List.getElem?_eq_none (by simp; omega)]
theorem mid_get (pre mid post : List Value) (j : Nat) (v : Value) (h : mid[j]? = some v) : (pre ++ mid ++ post).toArray[pre.length + j]? = some v := by
  have hj : j < mid.length := (List.getElem?_eq_some_iff.1 h).1
  rw [List.getElem?_toArray, List.append_assoc, List.getElem?_append_right (by omega), List.getElem?_append_left (by omega), show pre.length + j - pre.length = j by omega, h]
end Go

/- The package walk over a memory: One. -/
namespace Go.Proofs.YtlchlklbjocliaaDoor
open Go Go.RowKit
set_option linter.unusedSimpArgs false
set_option linter.unusedVariables false
set_option maxRecDepth 100000
def leafV (v : Nat) : Bool := eb v 0 && (eb v 1 || eb v 3)
def allowsV (v : Nat) (k : Int) (u : Bool) : Bool := allowsB (eb v 0) (eb v 1) (eb v 2) (eb v 3) (eb v 4) k u
/-- What a walk finds: the number of the page's entry. -/
def oneV (N : Nat) (B : Nat → Nat) (root : Int) (A : Nat) (k : Int) (u : Bool) : Option Nat :=
  if A < 262144 ∧ 0 ≤ root ∧ root ≤ 1099511627776 then
    if gok (gv N B (root.toNat * 256 + 8 * (A / 8192))) = true ∧ leafV (gv N B (root.toNat * 256 + 8 * (A / 8192))) = false then
      if gok (gv N B (ef (gv N B (root.toNat * 256 + 8 * (A / 8192))) * 256 + 8 * (A / 256 % 32))) = true ∧ allowsV (gv N B (ef (gv N B (root.toNat * 256 + 8 * (A / 8192))) * 256 + 8 * (A / 256 % 32))) k u = true then
        some (gv N B (ef (gv N B (root.toNat * 256 + 8 * (A / 8192))) * 256 + 8 * (A / 256 % 32)))
      else none
    else none
  else none
def zeroF : Array Value := #[.int .i64 0, .bool false, .bool false, .bool false, .bool false, .int .i64 0]
def fndA (o : Option Nat) : Array Value := match o with
  | some v => #[.int .i64 (ef v), .bool (eb v 1), .bool (eb v 2), .bool (eb v 3), .bool (eb v 4), .int .i64 2]
  | none => zeroF
theorem found_any (a b c d e f g : Bool) (n k : Int) (w : World) :
    Calls Tryd.prog 74 #[.agg #[.bool a, .bool b, .bool c, .bool d, .bool e, .bool f, .bool g, .int .i64 n], .int .i64 k] w fun r w' => r = .returned (.agg #[.int .i64 n, .bool b, .bool c, .bool d, .bool e, .int .i64 k]) ∧ Grows w w' := by
  go_enter Tryd.func74, Tryd.ntmps74
  go_wp2_with fail
  exact bodyPost_ret (v := .agg #[.int .i64 n, .bool b, .bool c, .bool d, .bool e, .int .i64 k]) (by simp [results, Tryd.results74, go_sem]) rfl ⟨rfl, ((Grows.refl _).alloc _).alloc _⟩
/-- The six cells of what is found, written one by one. -/
theorem row_fill6 {w : World} {b : Nat} {t : TypeId} (h : Row w b zeroF t) (n k : Int) (b1 b2 b3 b4 : Bool) :
    Row ((((((w.setCell ⟨b, 0, none⟩ (.int .i64 n)).setCell ⟨b, 1, none⟩ (.bool b1)).setCell ⟨b, 2, none⟩ (.bool b2)).setCell ⟨b, 3, none⟩ (.bool b3)).setCell ⟨b, 4, none⟩ (.bool b4)).setCell ⟨b, 5, none⟩ (.int .i64 k)) b #[.int .i64 n, .bool b1, .bool b2, .bool b3, .bool b4, .int .i64 k] t :=
  (((((h.put 0 (.int .i64 n)).put 1 (.bool b1)).put 2 (.bool b2)).put 3 (.bool b3)).put 4 (.bool b4)).put 5 (.int .i64 k)
theorem grows_fill6 {a w : World} (h : Grows a w) {b : Nat} (hb : a.heap.size ≤ b) (n k : Int) (b1 b2 b3 b4 : Bool) :
    Grows a ((((((w.setCell ⟨b, 0, none⟩ (.int .i64 n)).setCell ⟨b, 1, none⟩ (.bool b1)).setCell ⟨b, 2, none⟩ (.bool b2)).setCell ⟨b, 3, none⟩ (.bool b3)).setCell ⟨b, 4, none⟩ (.bool b4)).setCell ⟨b, 5, none⟩ (.int .i64 k)) :=
  (((((h.setCell hb _).setCell hb _).setCell hb _).setCell hb _).setCell hb _).setCell hb _
theorem one_no {w : World} {p : Nat} {root : Int} {A : Nat} (hA : A < 18446744073709551616) (k : Int) (u : Bool) (h : ¬ (A < 262144 ∧ 0 ≤ root ∧ root ≤ 1099511627776)) :
    Calls Tryd.prog 30 #[rdr p, .int .i64 root, .int .u64 A, .int .i64 k, .bool u] w fun r w' => r = .returned (.tuple #[.agg zeroF, .bool false]) ∧ Grows w w' := by
  unfold rdr
  have hni : ∀ w, (binOp .eql 139 (.iface 27 (.pointer (some ⟨p, 0, none⟩))) .nilIface).run Tryd.prog w = .ok (.bool false) w := fun w => by rfl
  have hsp := split_any A (by omega) (by omega) (w.alloc (Obj.cells zeroF 79))
  have HB : Hid (¬ (A < 262144 ∧ 0 ≤ root ∧ root ≤ 1099511627776)) := Lib.hid h
  clear h
  by_cases h1 : A < 262144
  · have h1' : (A : Int) < 262144 := by omega
    rw [if_pos h1'] at hsp
    generalize (A : Int) / 8192 = x0 at *
    generalize (A : Int) / 256 % 32 = x1 at *
    generalize (A : Int) % 256 = x2 at *
    by_cases h2 : root < 0
    · have d1 : decide (root < 0) = true := decide_eq_true h2
      clear h1 h1' h2 HB hA
      go_enter Tryd.func30, Tryd.ntmps30
      go_wp2_with fail
      refine hsp.mono ?_
      rintro _ w1 ⟨rfl, hg1⟩
      have hg1' := ((Grows.refl w).alloc (Obj.cells zeroF 79)).trans hg1
      have hr4 : Row w1 w.heap.size zeroF 79 := (Row.new w zeroF 79).grows hg1
      obtain ⟨b4, hb4⟩ : ∃ b, b = w.heap.size := ⟨_, rfl⟩
      rw [← hb4] at hr4 ⊢
      have HG1 := Lib.hid hg1'
      have HB4 := Lib.hid hb4
      have HR4 := Lib.hid hr4
      clear hg1 hg1' hr4 hb4 hsp
      have l4 := HR4.out.lt
      have f0 := HR4.out.frozen 0
      have f1 := HR4.out.frozen 1
      have f2 := HR4.out.frozen 2
      have f3 := HR4.out.frozen 3
      have f4 := HR4.out.frozen 4
      have f5 := HR4.out.frozen 5
      have k0 := (HR4.out.cell 0).trans (show zeroF[0]? = some (.int .i64 0) from rfl)
      have k1 := (HR4.out.cell 1).trans (show zeroF[1]? = some (.bool false) from rfl)
      have k2 := (HR4.out.cell 2).trans (show zeroF[2]? = some (.bool false) from rfl)
      have k3 := (HR4.out.cell 3).trans (show zeroF[3]? = some (.bool false) from rfl)
      have k4 := (HR4.out.cell 4).trans (show zeroF[4]? = some (.bool false) from rfl)
      have k5 := (HR4.out.cell 5).trans (show zeroF[5]? = some (.int .i64 0) from rfl)
      go_wp2_with fail
      have hF := (row_fill6 HR4.out 0 0 false false false false).cell
      exact bodyPost_ret (v := .tuple #[.agg zeroF, .bool false]) (by simp [results, Tryd.results30, go_sem, hF, zeroF]) rfl ⟨rfl, grows_fill6 HG1.out (by have := HB4.out; omega) _ _ _ _ _ _⟩
    · have d1 : decide (root < 0) = false := decide_eq_false h2
      have d2 : decide (1099511627776 < root) = true := decide_eq_true (by have := HB.out; omega)
      clear h1 h1' h2 HB hA
      go_enter Tryd.func30, Tryd.ntmps30
      go_wp2_with fail
      refine hsp.mono ?_
      rintro _ w1 ⟨rfl, hg1⟩
      have hg1' := ((Grows.refl w).alloc (Obj.cells zeroF 79)).trans hg1
      have hr4 : Row w1 w.heap.size zeroF 79 := (Row.new w zeroF 79).grows hg1
      obtain ⟨b4, hb4⟩ : ∃ b, b = w.heap.size := ⟨_, rfl⟩
      rw [← hb4] at hr4 ⊢
      have HG1 := Lib.hid hg1'
      have HB4 := Lib.hid hb4
      have HR4 := Lib.hid hr4
      clear hg1 hg1' hr4 hb4 hsp
      have l4 := HR4.out.lt
      have f0 := HR4.out.frozen 0
      have f1 := HR4.out.frozen 1
      have f2 := HR4.out.frozen 2
      have f3 := HR4.out.frozen 3
      have f4 := HR4.out.frozen 4
      have f5 := HR4.out.frozen 5
      have k0 := (HR4.out.cell 0).trans (show zeroF[0]? = some (.int .i64 0) from rfl)
      have k1 := (HR4.out.cell 1).trans (show zeroF[1]? = some (.bool false) from rfl)
      have k2 := (HR4.out.cell 2).trans (show zeroF[2]? = some (.bool false) from rfl)
      have k3 := (HR4.out.cell 3).trans (show zeroF[3]? = some (.bool false) from rfl)
      have k4 := (HR4.out.cell 4).trans (show zeroF[4]? = some (.bool false) from rfl)
      have k5 := (HR4.out.cell 5).trans (show zeroF[5]? = some (.int .i64 0) from rfl)
      go_wp2_with fail
      have hF := (row_fill6 HR4.out 0 0 false false false false).cell
      exact bodyPost_ret (v := .tuple #[.agg zeroF, .bool false]) (by simp [results, Tryd.results30, go_sem, hF, zeroF]) rfl ⟨rfl, grows_fill6 HG1.out (by have := HB4.out; omega) _ _ _ _ _ _⟩
  · have h1' : ¬ (A : Int) < 262144 := by omega
    rw [if_neg h1'] at hsp
    clear h1 h1' HB hA
    by_cases h2 : root < 0
    · have d1 : decide (root < 0) = true := decide_eq_true h2
      clear h2
      go_enter Tryd.func30, Tryd.ntmps30
      go_wp2_with fail
      refine hsp.mono ?_
      rintro _ w1 ⟨rfl, hg1⟩
      have hg1' := ((Grows.refl w).alloc (Obj.cells zeroF 79)).trans hg1
      have hr4 : Row w1 w.heap.size zeroF 79 := (Row.new w zeroF 79).grows hg1
      obtain ⟨b4, hb4⟩ : ∃ b, b = w.heap.size := ⟨_, rfl⟩
      rw [← hb4] at hr4 ⊢
      have HG1 := Lib.hid hg1'
      have HB4 := Lib.hid hb4
      have HR4 := Lib.hid hr4
      clear hg1 hg1' hr4 hb4 hsp
      have l4 := HR4.out.lt
      have f0 := HR4.out.frozen 0
      have f1 := HR4.out.frozen 1
      have f2 := HR4.out.frozen 2
      have f3 := HR4.out.frozen 3
      have f4 := HR4.out.frozen 4
      have f5 := HR4.out.frozen 5
      have k0 := (HR4.out.cell 0).trans (show zeroF[0]? = some (.int .i64 0) from rfl)
      have k1 := (HR4.out.cell 1).trans (show zeroF[1]? = some (.bool false) from rfl)
      have k2 := (HR4.out.cell 2).trans (show zeroF[2]? = some (.bool false) from rfl)
      have k3 := (HR4.out.cell 3).trans (show zeroF[3]? = some (.bool false) from rfl)
      have k4 := (HR4.out.cell 4).trans (show zeroF[4]? = some (.bool false) from rfl)
      have k5 := (HR4.out.cell 5).trans (show zeroF[5]? = some (.int .i64 0) from rfl)
      go_wp2_with fail
      have hF := (row_fill6 HR4.out 0 0 false false false false).cell
      exact bodyPost_ret (v := .tuple #[.agg zeroF, .bool false]) (by simp [results, Tryd.results30, go_sem, hF, zeroF]) rfl ⟨rfl, grows_fill6 HG1.out (by have := HB4.out; omega) _ _ _ _ _ _⟩
    · have d1 : decide (root < 0) = false := decide_eq_false h2
      clear h2
      by_cases h3 : 1099511627776 < root
      · have d2 : decide (1099511627776 < root) = true := decide_eq_true h3
        clear h3
        go_enter Tryd.func30, Tryd.ntmps30
        go_wp2_with fail
        refine hsp.mono ?_
        rintro _ w1 ⟨rfl, hg1⟩
        have hg1' := ((Grows.refl w).alloc (Obj.cells zeroF 79)).trans hg1
        have hr4 : Row w1 w.heap.size zeroF 79 := (Row.new w zeroF 79).grows hg1
        obtain ⟨b4, hb4⟩ : ∃ b, b = w.heap.size := ⟨_, rfl⟩
        rw [← hb4] at hr4 ⊢
        have HG1 := Lib.hid hg1'
        have HB4 := Lib.hid hb4
        have HR4 := Lib.hid hr4
        clear hg1 hg1' hr4 hb4 hsp
        have l4 := HR4.out.lt
        have f0 := HR4.out.frozen 0
        have f1 := HR4.out.frozen 1
        have f2 := HR4.out.frozen 2
        have f3 := HR4.out.frozen 3
        have f4 := HR4.out.frozen 4
        have f5 := HR4.out.frozen 5
        have k0 := (HR4.out.cell 0).trans (show zeroF[0]? = some (.int .i64 0) from rfl)
        have k1 := (HR4.out.cell 1).trans (show zeroF[1]? = some (.bool false) from rfl)
        have k2 := (HR4.out.cell 2).trans (show zeroF[2]? = some (.bool false) from rfl)
        have k3 := (HR4.out.cell 3).trans (show zeroF[3]? = some (.bool false) from rfl)
        have k4 := (HR4.out.cell 4).trans (show zeroF[4]? = some (.bool false) from rfl)
        have k5 := (HR4.out.cell 5).trans (show zeroF[5]? = some (.int .i64 0) from rfl)
        go_wp2_with fail
        have hF := (row_fill6 HR4.out 0 0 false false false false).cell
        exact bodyPost_ret (v := .tuple #[.agg zeroF, .bool false]) (by simp [results, Tryd.results30, go_sem, hF, zeroF]) rfl ⟨rfl, grows_fill6 HG1.out (by have := HB4.out; omega) _ _ _ _ _ _⟩
      · have d2 : decide (1099511627776 < root) = false := decide_eq_false h3
        clear h3
        go_enter Tryd.func30, Tryd.ntmps30
        go_wp2_with fail
        refine hsp.mono ?_
        rintro _ w1 ⟨rfl, hg1⟩
        have hg1' := ((Grows.refl w).alloc (Obj.cells zeroF 79)).trans hg1
        have hr4 : Row w1 w.heap.size zeroF 79 := (Row.new w zeroF 79).grows hg1
        obtain ⟨b4, hb4⟩ : ∃ b, b = w.heap.size := ⟨_, rfl⟩
        rw [← hb4] at hr4 ⊢
        have HG1 := Lib.hid hg1'
        have HB4 := Lib.hid hb4
        have HR4 := Lib.hid hr4
        clear hg1 hg1' hr4 hb4 hsp
        have l4 := HR4.out.lt
        have f0 := HR4.out.frozen 0
        have f1 := HR4.out.frozen 1
        have f2 := HR4.out.frozen 2
        have f3 := HR4.out.frozen 3
        have f4 := HR4.out.frozen 4
        have f5 := HR4.out.frozen 5
        have k0 := (HR4.out.cell 0).trans (show zeroF[0]? = some (.int .i64 0) from rfl)
        have k1 := (HR4.out.cell 1).trans (show zeroF[1]? = some (.bool false) from rfl)
        have k2 := (HR4.out.cell 2).trans (show zeroF[2]? = some (.bool false) from rfl)
        have k3 := (HR4.out.cell 3).trans (show zeroF[3]? = some (.bool false) from rfl)
        have k4 := (HR4.out.cell 4).trans (show zeroF[4]? = some (.bool false) from rfl)
        have k5 := (HR4.out.cell 5).trans (show zeroF[5]? = some (.int .i64 0) from rfl)
        go_wp2_with fail
        have hF := (row_fill6 HR4.out 0 0 false false false false).cell
        exact bodyPost_ret (v := .tuple #[.agg zeroF, .bool false]) (by simp [results, Tryd.results30, go_sem, hF, zeroF]) rfl ⟨rfl, grows_fill6 HG1.out (by have := HB4.out; omega) _ _ _ _ _ _⟩
theorem oneV_eq {N : Nat} {B : Nat → Nat} {rt A : Nat} {k : Int} {u : Bool} (hA : A < 262144) (hrt : rt ≤ 1099511627776) {v1 v2 : Nat} (h1 : v1 = gv N B (rt * 256 + 8 * (A / 8192))) (h2 : v2 = gv N B (ef v1 * 256 + 8 * (A / 256 % 32))) :
    oneV N B (rt : Int) A k u = if gok v1 = true ∧ leafV v1 = false then (if gok v2 = true ∧ allowsV v2 k u = true then some v2 else none) else none := by
  subst h1
  subst h2
  unfold oneV
  rw [if_pos ⟨hA, by omega, by omega⟩, Int.toNat_natCast]
theorem row8 {w : World} {b : Nat} {t : TypeId} {x0 x1 x2 x3 x4 x5 x6 x7 : Value} (h : Row w b #[x0, x1, x2, x3, x4, x5, x6, x7] t) :
    w.cell? ⟨b, 0, none⟩ = some x0 ∧ w.cell? ⟨b, 1, none⟩ = some x1 ∧ w.cell? ⟨b, 2, none⟩ = some x2 ∧ w.cell? ⟨b, 3, none⟩ = some x3 ∧ w.cell? ⟨b, 4, none⟩ = some x4 ∧ w.cell? ⟨b, 5, none⟩ = some x5 ∧ w.cell? ⟨b, 6, none⟩ = some x6 ∧ w.cell? ⟨b, 7, none⟩ = some x7 :=
  ⟨h.cell 0, h.cell 1, h.cell 2, h.cell 3, h.cell 4, h.cell 5, h.cell 6, h.cell 7⟩
theorem row_put8 {w : World} {b : Nat} {t : TypeId} {x0 x1 x2 x3 x4 x5 x6 x7 : Value} (h : Row w b #[x0, x1, x2, x3, x4, x5, x6, x7] t) (a0 a1 a2 a3 a4 a5 a6 : Bool) (n : Int) :
    Row ((((((((w.setCell ⟨b, 0, none⟩ (.bool a0)).setCell ⟨b, 1, none⟩ (.bool a1)).setCell ⟨b, 2, none⟩ (.bool a2)).setCell ⟨b, 3, none⟩ (.bool a3)).setCell ⟨b, 4, none⟩ (.bool a4)).setCell ⟨b, 5, none⟩ (.bool a5)).setCell ⟨b, 6, none⟩ (.bool a6)).setCell ⟨b, 7, none⟩ (.int .i64 n)) b #[.bool a0, .bool a1, .bool a2, .bool a3, .bool a4, .bool a5, .bool a6, .int .i64 n] t := by
  have h0 := row_setCell h (i := 0) (by simp) (.bool a0)
  have h1 := row_setCell h0 (i := 1) (by simp) (.bool a1)
  have h2 := row_setCell h1 (i := 2) (by simp) (.bool a2)
  have h3 := row_setCell h2 (i := 3) (by simp) (.bool a3)
  have h4 := row_setCell h3 (i := 4) (by simp) (.bool a4)
  have h5 := row_setCell h4 (i := 5) (by simp) (.bool a5)
  have h6 := row_setCell h5 (i := 6) (by simp) (.bool a6)
  have h7 := row_setCell h6 (i := 7) (by simp) (.int .i64 n)
  simpa using h7
theorem grows_put8 {a w : World} (h : Grows a w) {b : Nat} (hb : a.heap.size ≤ b) (a0 a1 a2 a3 a4 a5 a6 : Bool) (n : Int) :
    Grows a ((((((((w.setCell ⟨b, 0, none⟩ (.bool a0)).setCell ⟨b, 1, none⟩ (.bool a1)).setCell ⟨b, 2, none⟩ (.bool a2)).setCell ⟨b, 3, none⟩ (.bool a3)).setCell ⟨b, 4, none⟩ (.bool a4)).setCell ⟨b, 5, none⟩ (.bool a5)).setCell ⟨b, 6, none⟩ (.bool a6)).setCell ⟨b, 7, none⟩ (.int .i64 n)) :=
  (((((((h.setCell hb _).setCell hb _).setCell hb _).setCell hb _).setCell hb _).setCell hb _).setCell hb _).setCell hb _
theorem row_over8 {w : World} {b b' : Nat} {t : TypeId} {c : Array Value} (h : Row w b c t) (hn : b' ≠ b) (a0 a1 a2 a3 a4 a5 a6 : Bool) (n : Int) :
    Row ((((((((w.setCell ⟨b', 0, none⟩ (.bool a0)).setCell ⟨b', 1, none⟩ (.bool a1)).setCell ⟨b', 2, none⟩ (.bool a2)).setCell ⟨b', 3, none⟩ (.bool a3)).setCell ⟨b', 4, none⟩ (.bool a4)).setCell ⟨b', 5, none⟩ (.bool a5)).setCell ⟨b', 6, none⟩ (.bool a6)).setCell ⟨b', 7, none⟩ (.int .i64 n)) b c t :=
  row_setOther (row_setOther (row_setOther (row_setOther (row_setOther (row_setOther (row_setOther (row_setOther h hn _) hn _) hn _) hn _) hn _) hn _) hn _) hn _
set_option maxHeartbeats 4000000 in
theorem one_in {w : World} {p q N : Nat} {B : Nat → Nat} (hW : Widths w) (hP : Places w) (h : Mem w p q N B) {rt A : Nat} (hA : A < 262144) (hrt : rt ≤ 1099511627776) (k : Int) (u : Bool) :
    Calls Tryd.prog 30 #[rdr p, .int .i64 rt, .int .u64 A, .int .i64 k, .bool u] w fun r w' => r = .returned (.tuple #[.agg (fndA (oneV N B rt A k u)), .bool (oneV N B rt A k u).isSome]) ∧ Grows w w' := by
  have hni : ∀ w, (binOp .eql 139 (rdr p) .nilIface).run Tryd.prog w = .ok (.bool false) w := fun w => by rfl
  have hsp := split_any A (by omega) (by omega) (w.alloc (Obj.cells zeroF 79))
  rw [if_pos (show (A : Int) < 262144 by omega)] at hsp
  obtain ⟨up, hup, hup32⟩ : ∃ up : Nat, up = A / 8192 ∧ up < 32 := ⟨_, rfl, by omega⟩
  obtain ⟨lo, hlo, hlo32⟩ : ∃ lo : Nat, lo = A / 256 % 32 ∧ lo < 32 := ⟨_, rfl, by omega⟩
  rw [show (A : Int) / 8192 = (up : Int) by omega, show (A : Int) / 256 % 32 = (lo : Int) by omega] at hsp
  generalize (A : Int) % 256 = x2 at *
  obtain ⟨v1, hv1⟩ : ∃ v1, v1 = gv N B (rt * 256 + 8 * up) := ⟨_, rfl⟩
  obtain ⟨v2, hv2⟩ : ∃ v2, v2 = gv N B (ef v1 * 256 + 8 * lo) := ⟨_, rfl⟩
  have hge1 : ∀ W, Grows w W → Calls Tryd.prog 70 #[rdr p, .int .u64 ((rt * 256 + 8 * up : Nat) : Int)] W fun r w' => r = .returned (.tuple #[.agg (entA v1), .bool (gok v1)]) ∧ Grows W w' := fun W hg => by rw [hv1]; exact get_any (hW.grows hg) (hP.grows hg) (MemAt.grows h hg) _ (by omega)
  have hge2 : ∀ W, Grows w W → Calls Tryd.prog 70 #[rdr p, .int .u64 ((ef v1 * 256 + 8 * lo : Nat) : Int)] W fun r w' => r = .returned (.tuple #[.agg (entA v2), .bool (gok v2)]) ∧ Grows W w' := fun W hg => by rw [hv2]; exact get_any (hW.grows hg) (hP.grows hg) (MemAt.grows h hg) _ (by have := ef_lt v1; omega)
  have hsl1 := fun W => slot_any W (t := rt) (p := up) hrt hup32
  have hsl2 := fun W => slot_any W (t := ef v1) (p := lo) (by have := ef_lt v1; omega) hlo32
  have HON := Lib.hid (oneV_eq (N := N) (B := B) (v1 := v1) (v2 := v2) (k := k) (u := u) hA hrt (by rw [hv1, hup]) (by rw [hv2, hlo]))
  have d1 : decide ((rt : Int) < 0) = false := decide_eq_false (by omega)
  have d2 : decide (1099511627776 < (rt : Int)) = false := decide_eq_false (by omega)
  have HGE1 := Lib.hid hge1
  have HGE2 := Lib.hid hge2
  clear hup hup32 hlo hlo32 hv1 hv2 hge1 hge2 hW hP h hA hrt
  generalize rt * 256 + 8 * up = ad1 at *
  generalize ef v1 * 256 + 8 * lo = ad2 at *
  unfold rdr at *
  go_enter Tryd.func30, Tryd.ntmps30
  go_wp2_with fail
  refine hsp.mono ?_
  rintro _ w1 ⟨rfl, hg1⟩
  have hg1' := ((Grows.refl w).alloc (Obj.cells zeroF 79)).trans hg1
  have hr4 : Row w1 w.heap.size zeroF 79 := (Row.new w zeroF 79).grows hg1
  obtain ⟨b4, hb4⟩ : ∃ b, b = w.heap.size := ⟨_, rfl⟩
  rw [← hb4] at hr4 ⊢
  have HG1 := Lib.hid hg1'
  have HB4 := Lib.hid hb4
  have HR4 := Lib.hid hr4
  clear hg1 hg1' hr4 hb4 hsp
  go_wp2_with fail
  refine (hsl1 w1).mono ?_
  rintro _ _ ⟨rfl, hw⟩
  rw [hw]
  clear hw
  clear hsl1
  go_wp2_with fail
  refine (HGE1.out _ HG1.out).mono ?_
  rintro _ w2 ⟨rfl, hg2⟩
  have HEN1 := Lib.hid (show entA v1 = #[.bool (eb v1 0), .bool (eb v1 1), .bool (eb v1 2), .bool (eb v1 3), .bool (eb v1 4), .bool (eb v1 5), .bool (eb v1 6), .int .i64 (ef v1)] from rfl)
  have HLF := Lib.hid (show leafV v1 = (eb v1 0 && (eb v1 1 || eb v1 3)) from rfl)
  rw [HEN1.out]
  generalize eb v1 0 = a0 at *
  generalize eb v1 1 = a1 at *
  generalize eb v1 2 = a2 at *
  generalize eb v1 3 = a3 at *
  generalize eb v1 4 = a4 at *
  generalize eb v1 5 = a5 at *
  generalize eb v1 6 = a6 at *
  have hr4g := fun (c : Array Value) (t : TypeId) => (HR4.out.grows hg2).grows ((Grows.refl w2).alloc (Obj.cells c t))
  have HG2 := Lib.hid (HG1.out.trans hg2)
  have hl16 : b4 ≠ w2.heap.size := by have := (HR4.out.grows hg2).lt; omega
  clear HG1 HR4 HGE1 hg2
  cases hgk : gok v1
  · have HNO := Lib.hid (show oneV N B rt A k u = none by rw [HON.out, if_neg (by rw [hgk]; simp)])
    have f0 : ∀ c t, (w2.alloc (Obj.cells c t)).frozen? ⟨b4, 0, none⟩ = false := fun c t => (hr4g c t).frozen 0
    have f1 : ∀ c t, (w2.alloc (Obj.cells c t)).frozen? ⟨b4, 1, none⟩ = false := fun c t => (hr4g c t).frozen 1
    have f2 : ∀ c t, (w2.alloc (Obj.cells c t)).frozen? ⟨b4, 2, none⟩ = false := fun c t => (hr4g c t).frozen 2
    have f3 : ∀ c t, (w2.alloc (Obj.cells c t)).frozen? ⟨b4, 3, none⟩ = false := fun c t => (hr4g c t).frozen 3
    have f4 : ∀ c t, (w2.alloc (Obj.cells c t)).frozen? ⟨b4, 4, none⟩ = false := fun c t => (hr4g c t).frozen 4
    have f5 : ∀ c t, (w2.alloc (Obj.cells c t)).frozen? ⟨b4, 5, none⟩ = false := fun c t => (hr4g c t).frozen 5
    have k0 : ∀ c t, (w2.alloc (Obj.cells c t)).cell? ⟨b4, 0, none⟩ = some (.int .i64 0) := fun c t => (hr4g c t).cell 0
    have k1 : ∀ c t, (w2.alloc (Obj.cells c t)).cell? ⟨b4, 1, none⟩ = some (.bool false) := fun c t => (hr4g c t).cell 1
    have k2 : ∀ c t, (w2.alloc (Obj.cells c t)).cell? ⟨b4, 2, none⟩ = some (.bool false) := fun c t => (hr4g c t).cell 2
    have k3 : ∀ c t, (w2.alloc (Obj.cells c t)).cell? ⟨b4, 3, none⟩ = some (.bool false) := fun c t => (hr4g c t).cell 3
    have k4 : ∀ c t, (w2.alloc (Obj.cells c t)).cell? ⟨b4, 4, none⟩ = some (.bool false) := fun c t => (hr4g c t).cell 4
    have k5 : ∀ c t, (w2.alloc (Obj.cells c t)).cell? ⟨b4, 5, none⟩ = some (.int .i64 0) := fun c t => (hr4g c t).cell 5
    have HR4 := Lib.hid hr4g
    clear hr4g hgk hsl2
    go_wp2_with fail
    have hF := fun (c : Array Value) (t : TypeId) => (row_fill6 (HR4.out c t) 0 0 false false false false).cell
    exact bodyPost_ret (v := .tuple #[.agg zeroF, .bool false]) (by simp [results, Tryd.results30, go_sem, hF, zeroF]) rfl ⟨by rw [HNO.out]; rfl, grows_fill6 (HG2.out.alloc _) (by have := HB4.out; omega) _ _ _ _ _ _⟩
  · have hlf := fun W => leaf_any a0 a1 a2 a3 a4 a5 a6 (ef v1 : Int) W
    rw [← HLF.out] at hlf
    have HGK1 := Lib.hid hgk
    clear hgk
    go_wp2_with fail
    obtain ⟨W3, hW3⟩ : ∃ W3, W3 = w2.alloc (Obj.cells #[.bool a0, .bool a1, .bool a2, .bool a3, .bool a4, .bool a5, .bool a6, .int .i64 (ef v1)] 111) := ⟨_, rfl⟩
    obtain ⟨b16, hb16⟩ : ∃ b, b = w2.heap.size := ⟨_, rfl⟩
    rw [← hb16] at hl16 ⊢
    rw [← hW3]
    have hr16 : Row W3 b16 #[.bool a0, .bool a1, .bool a2, .bool a3, .bool a4, .bool a5, .bool a6, .int .i64 (ef v1)] 111 := by rw [hW3]; exact Row.new_at _ _ _ hb16
    have hr4 : Row W3 b4 zeroF 79 := by rw [hW3]; exact hr4g _ _
    have hg3 : Grows w W3 := by rw [hW3]; exact HG2.out.alloc _
    have HB16 := Lib.hid (show w.heap.size ≤ b16 by have := HG2.out.size; omega)
    clear hW3 hb16 hr4g HG2
    refine (hlf W3).mono ?_
    rintro _ w4 ⟨rfl, hg4⟩
    have HR4 := Lib.hid (hr4.grows hg4)
    have HR16 := Lib.hid (hr16.grows hg4)
    have HG4 := Lib.hid (hg3.trans hg4)
    clear hlf hg4 hr4 hr16 hg3
    cases hlv : leafV v1
    · obtain ⟨y0, y1, y2, y3, y4, y5, y6, y7⟩ := row8 HR16.out
      have n1 : b16 ≠ b4 := fun e => hl16 e.symm
      clear HEN1 HLF
      go_wp2_with fail
      refine (hsl2 w4).mono ?_
      rintro _ _ ⟨rfl, hw⟩
      rw [hw]
      clear hw
      clear hsl2
      go_wp2_with fail
      refine (HGE2.out _ HG4.out).mono ?_
      rintro _ w5 ⟨rfl, hg5⟩
      have HR45 := Lib.hid (HR4.out.grows hg5)
      have hr165 := HR16.out.grows hg5
      have HG5 := Lib.hid (HG4.out.trans hg5)
      have HEN2 := Lib.hid (show entA v2 = #[.bool (eb v2 0), .bool (eb v2 1), .bool (eb v2 2), .bool (eb v2 3), .bool (eb v2 4), .bool (eb v2 5), .bool (eb v2 6), .int .i64 (ef v2)] from rfl)
      have hal := fun W => allows_any (eb v2 0) (eb v2 1) (eb v2 2) (eb v2 3) (eb v2 4) (eb v2 5) (eb v2 6) (ef v2) k u W
      have hfn := fun W => found_any (eb v2 0) (eb v2 1) (eb v2 2) (eb v2 3) (eb v2 4) (eb v2 5) (eb v2 6) (ef v2) 2 W
      have HFN := Lib.hid (show fndA (some v2) = #[.int .i64 (ef v2), .bool (eb v2 1), .bool (eb v2 2), .bool (eb v2 3), .bool (eb v2 4), .int .i64 2] from rfl)
      have hav : allowsB (eb v2 0) (eb v2 1) (eb v2 2) (eb v2 3) (eb v2 4) k u = allowsV v2 k u := rfl
      rw [hav] at hal
      rw [HEN2.out]
      clear hav y0 y1 y2 y3 y4 y5 y6 y7 hg5
      generalize eb v2 0 = e0 at *
      generalize eb v2 1 = e1 at *
      generalize eb v2 2 = e2 at *
      generalize eb v2 3 = e3 at *
      generalize eb v2 4 = e4 at *
      generalize eb v2 5 = e5 at *
      generalize eb v2 6 = e6 at *
      generalize (ef v2 : Int) = nn at *
      obtain ⟨y0, y1, y2, y3, y4, y5, y6, y7⟩ := row8 hr165
      have l16 := hr165.lt
      have g0 := hr165.frozen 0
      have g1 := hr165.frozen 1
      have g2 := hr165.frozen 2
      have g3 := hr165.frozen 3
      have g4 := hr165.frozen 4
      have g5 := hr165.frozen 5
      have g6 := hr165.frozen 6
      have g7 := hr165.frozen 7
      have hr166 := row_put8 hr165 e0 e1 e2 e3 e4 e5 e6 nn
      have hg6 := grows_put8 HG5.out HB16.out e0 e1 e2 e3 e4 e5 e6 nn
      have hr46 := row_over8 HR45.out n1 e0 e1 e2 e3 e4 e5 e6 nn
      obtain ⟨W6, hW6⟩ : ∃ W6, W6 = World.fill8 w5 b16 e0 e1 e2 e3 e4 e5 e6 nn := ⟨_, rfl⟩
      have HR46 := Lib.hid (show Row W6 b4 zeroF 79 by rw [hW6]; exact hr46)
      have HR166 := Lib.hid (show Row W6 b16 #[.bool e0, .bool e1, .bool e2, .bool e3, .bool e4, .bool e5, .bool e6, .int .i64 nn] 111 by rw [hW6]; exact hr166)
      have HG6 := Lib.hid (show Grows w W6 by rw [hW6]; exact hg6)
      have HW6 := Lib.hid hW6
      clear hr166 hg6 hr46 hr165 HR4 HR16 HG4 hW6
      go_upto_region 8 with fail
      change Code.wp _ _ _ _ (World.fill8 w5 b16 e0 e1 e2 e3 e4 e5 e6 nn)
      rw [← HW6.out]
      clear HW6 HR45 HG5 y0 y1 y2 y3 y4 y5 y6 y7 l16 g0 g1 g2 g3 g4 g5 g6 g7
      cases hg2 : gok v2
      · have HNO := Lib.hid (show oneV N B rt A k u = none by rw [HON.out, if_pos ⟨HGK1.out, hlv⟩, if_neg (by rw [hg2]; simp)])
        clear hg2 hlv hal hfn
        have l4 := HR46.out.lt
        have f0 := HR46.out.frozen 0
        have f1 := HR46.out.frozen 1
        have f2 := HR46.out.frozen 2
        have f3 := HR46.out.frozen 3
        have f4 := HR46.out.frozen 4
        have f5 := HR46.out.frozen 5
        have k0 := (HR46.out.cell 0).trans (show zeroF[0]? = some (.int .i64 0) from rfl)
        have k1 := (HR46.out.cell 1).trans (show zeroF[1]? = some (.bool false) from rfl)
        have k2 := (HR46.out.cell 2).trans (show zeroF[2]? = some (.bool false) from rfl)
        have k3 := (HR46.out.cell 3).trans (show zeroF[3]? = some (.bool false) from rfl)
        have k4 := (HR46.out.cell 4).trans (show zeroF[4]? = some (.bool false) from rfl)
        have k5 := (HR46.out.cell 5).trans (show zeroF[5]? = some (.int .i64 0) from rfl)
        go_wp2_with fail
        have hF := (row_fill6 HR46.out 0 0 false false false false).cell
        exact bodyPost_ret (v := .tuple #[.agg zeroF, .bool false]) (by simp [results, Tryd.results30, go_sem, hF, zeroF]) rfl ⟨by rw [HNO.out]; rfl, grows_fill6 HG6.out (by have := HB4.out; omega) _ _ _ _ _ _⟩
      · have HGK2 := Lib.hid hg2
        clear hg2
        obtain ⟨y0, y1, y2, y3, y4, y5, y6, y7⟩ := row8 HR166.out
        go_wp2_with fail
        refine (hal _).mono ?_
        rintro _ w7 ⟨rfl, hg7⟩
        have HR47 := Lib.hid (HR46.out.grows hg7)
        have HR167 := Lib.hid (HR166.out.grows hg7)
        have HG7 := Lib.hid (HG6.out.trans hg7)
        clear hal hg7 HR46 HR166 HG6 y0 y1 y2 y3 y4 y5 y6 y7
        cases hav : allowsV v2 k u
        · have HNO := Lib.hid (show oneV N B rt A k u = none by rw [HON.out, if_pos ⟨HGK1.out, hlv⟩, if_neg (by rw [hav]; simp)])
          clear hav hlv hfn
          have l4 := HR47.out.lt
          have f0 := HR47.out.frozen 0
          have f1 := HR47.out.frozen 1
          have f2 := HR47.out.frozen 2
          have f3 := HR47.out.frozen 3
          have f4 := HR47.out.frozen 4
          have f5 := HR47.out.frozen 5
          have k0 := (HR47.out.cell 0).trans (show zeroF[0]? = some (.int .i64 0) from rfl)
          have k1 := (HR47.out.cell 1).trans (show zeroF[1]? = some (.bool false) from rfl)
          have k2 := (HR47.out.cell 2).trans (show zeroF[2]? = some (.bool false) from rfl)
          have k3 := (HR47.out.cell 3).trans (show zeroF[3]? = some (.bool false) from rfl)
          have k4 := (HR47.out.cell 4).trans (show zeroF[4]? = some (.bool false) from rfl)
          have k5 := (HR47.out.cell 5).trans (show zeroF[5]? = some (.int .i64 0) from rfl)
          go_wp2_with fail
          have hF := (row_fill6 HR47.out 0 0 false false false false).cell
          exact bodyPost_ret (v := .tuple #[.agg zeroF, .bool false]) (by simp [results, Tryd.results30, go_sem, hF, zeroF]) rfl ⟨by rw [HNO.out]; rfl, grows_fill6 HG7.out (by have := HB4.out; omega) _ _ _ _ _ _⟩
        · have HSO := Lib.hid (show oneV N B rt A k u = some v2 by rw [HON.out, if_pos ⟨HGK1.out, hlv⟩, if_pos ⟨HGK2.out, hav⟩])
          clear hav hlv
          obtain ⟨y0, y1, y2, y3, y4, y5, y6, y7⟩ := row8 HR167.out
          go_wp2_with fail
          refine (hfn _).mono ?_
          rintro _ w8 ⟨rfl, hg8⟩
          have HR48 := Lib.hid (HR47.out.grows hg8)
          have HG8 := Lib.hid (HG7.out.trans hg8)
          clear hfn hg8 HR47 HG7 HR167 y0 y1 y2 y3 y4 y5 y6 y7
          have l4 := HR48.out.lt
          have f0 := HR48.out.frozen 0
          have f1 := HR48.out.frozen 1
          have f2 := HR48.out.frozen 2
          have f3 := HR48.out.frozen 3
          have f4 := HR48.out.frozen 4
          have f5 := HR48.out.frozen 5
          have k0 := (HR48.out.cell 0).trans (show zeroF[0]? = some (.int .i64 0) from rfl)
          have k1 := (HR48.out.cell 1).trans (show zeroF[1]? = some (.bool false) from rfl)
          have k2 := (HR48.out.cell 2).trans (show zeroF[2]? = some (.bool false) from rfl)
          have k3 := (HR48.out.cell 3).trans (show zeroF[3]? = some (.bool false) from rfl)
          have k4 := (HR48.out.cell 4).trans (show zeroF[4]? = some (.bool false) from rfl)
          have k5 := (HR48.out.cell 5).trans (show zeroF[5]? = some (.int .i64 0) from rfl)
          go_wp2_with fail
          have hF := (row_fill6 HR48.out nn 2 e1 e2 e3 e4).cell
          exact bodyPost_ret (v := .tuple #[.agg #[.int .i64 nn, .bool e1, .bool e2, .bool e3, .bool e4, .int .i64 2], .bool true]) (by simp [results, Tryd.results30, go_sem, hF]) rfl ⟨by rw [HSO.out, HFN.out]; rfl, grows_fill6 HG8.out (by have := HB4.out; omega) _ _ _ _ _ _⟩
    · have HNO := Lib.hid (show oneV N B rt A k u = none by rw [HON.out, if_neg (by rw [hlv]; simp)])
      clear hlv hsl2
      have l4 := HR4.out.lt
      have f0 := HR4.out.frozen 0
      have f1 := HR4.out.frozen 1
      have f2 := HR4.out.frozen 2
      have f3 := HR4.out.frozen 3
      have f4 := HR4.out.frozen 4
      have f5 := HR4.out.frozen 5
      have k0 := (HR4.out.cell 0).trans (show zeroF[0]? = some (.int .i64 0) from rfl)
      have k1 := (HR4.out.cell 1).trans (show zeroF[1]? = some (.bool false) from rfl)
      have k2 := (HR4.out.cell 2).trans (show zeroF[2]? = some (.bool false) from rfl)
      have k3 := (HR4.out.cell 3).trans (show zeroF[3]? = some (.bool false) from rfl)
      have k4 := (HR4.out.cell 4).trans (show zeroF[4]? = some (.bool false) from rfl)
      have k5 := (HR4.out.cell 5).trans (show zeroF[5]? = some (.int .i64 0) from rfl)
      go_wp2_with fail
      have hF := (row_fill6 HR4.out 0 0 false false false false).cell
      exact bodyPost_ret (v := .tuple #[.agg zeroF, .bool false]) (by simp [results, Tryd.results30, go_sem, hF, zeroF]) rfl ⟨by rw [HNO.out]; rfl, grows_fill6 HG4.out (by have := HB4.out; omega) _ _ _ _ _ _⟩
end Go.Proofs.YtlchlklbjocliaaDoor

/- What a walk finds from a guest's root; Root. -/
namespace Go.Proofs.YtlchlklbjocliaaDoor
open Go Go.RowKit
set_option linter.unusedSimpArgs false
set_option linter.unusedVariables false
set_option maxRecDepth 100000
/-- Does a page allow an access? -/
def alw (g : Pg) (k : Int) : Bool := if k = 0 then g.x else if k = 1 then g.r else if k = 2 then g.w else false
def wfnd (G : GS) (page : Nat) (k : Int) : Option Nat := match G.pg page with
  | some g => if alw g k = true then some (pval (some g)) else none
  | none => none
theorem leaf_tells2 {f : Nat} (h : f < 256) (r w x : Bool) (hr : rightR r w x = true) : eb (packN true r w x true false false f) 0 = true ∧ eb (packN true r w x true false false f) 4 = true := by
  have hd : ∀ (f : Fin 256) (r w x : Bool), rightR r w x = true → eb (packN true r w x true false false (f.val : Nat)) 0 = true ∧ eb (packN true r w x true false false (f.val : Nat)) 4 = true := by decide +kernel
  exact hd ⟨f, h⟩ r w x hr
theorem one_guest {w : World} {I : Ids} {B T O E : Nat → Nat} {quo : Nat → Int} {G : GS} (h : One w I B T O E quo G) {page : Nat} (hp : page < 1024) (k : Int) : oneV I.N B (I.rt : Int) (256 * page) k true = wfnd G page k := by
  obtain ⟨s, c, L, low, g1, g2⟩ := h.ex
  have hrt : I.rt ≤ 1099511627776 := by have := h.fs.root.1; have := h.nb; omega
  have hk : page / 32 < 32 := by omega
  rw [oneV_eq (A := 256 * page) (by omega) hrt (v1 := tval (G.lw (page / 32))) (v2 := gv I.N B (ef (tval (G.lw (page / 32))) * 256 + 8 * (page % 32))) (by rw [← g2.root _ hk]; congr 2; omega) (by congr 2; omega)]
  cases hl : G.lw (page / 32) with
  | none =>
    have hg : G.pg page = none := cntP_none ((g2.som _ hk).mp hl)
    have e0 : gok (tval none) = false := gok0
    rw [e0, if_neg (by simp)]
    unfold wfnd
    rw [hg]
  | some t =>
    obtain ⟨t1, t2, t3⟩ := g2.tin _ _ hk hl
    obtain ⟨e1, e2, e3, e4⟩ := table_tells t2
    have hleaf : leafV (tval (some t)) = false := by
      unfold leafV
      show (_ && (eb (packN true false false false false false false t) 1 || eb (packN true false false false false false false t) 3)) = false
      rw [e3, e4]; simp
    have he1 : gok (tval (some t)) = true := e1
    have he2 : ef (tval (some t)) = t := e2
    rw [he1, hleaf, if_pos ⟨rfl, rfl⟩, he2]
    have hrd : gv I.N B (t * 256 + 8 * (page % 32)) = pval (G.pg page) := by
      rw [← g2.pages page hp]
      unfold rdP
      rw [g2.L_some hk hl]
      rfl
    rw [hrd]
    unfold wfnd
    cases hg : G.pg page with
    | none =>
      have e0 : gok (pval none) = false := gok0
      rw [e0, if_neg (by simp)]
    | some g =>
      obtain ⟨o1, o2⟩ := g2.ok page g hp hg
      obtain ⟨l1, l2, l3, l4, l5⟩ := leaf_tells o2 g.r g.w g.x o1
      obtain ⟨m1, m2⟩ := leaf_tells2 o2 g.r g.w g.x o1
      have hv : pval (some g) = packN true g.r g.w g.x true false false g.fr := rfl
      rw [hv, l1]
      have ha : allowsV (packN true g.r g.w g.x true false false g.fr) k true = alw g k := by
        unfold allowsV
        rw [l3, l4, l5, m1, m2]
        unfold allowsB ok3 alw
        unfold rightR at o1
        cases hr : g.r <;> cases hw : g.w <;> cases hx : g.x <;> simp_all
      rw [ha]
      simp
      rw [hv]
theorem walk_one {w : World} {I : Ids} {B T O E : Nat → Nat} {quo : Nat → Int} {G : GS} (h : One w I B T O E quo G) {page : Nat} (hp : page < 1024) (k : Int) :
    Calls Tryd.prog 30 #[rdr I.pm, .int .i64 I.rt, .int .u64 ((256 * page : Nat) : Int), .int .i64 k, .bool true] w fun r w' => r = .returned (.tuple #[.agg (fndA (wfnd G page k)), .bool (wfnd G page k).isSome]) ∧ Grows w w' := by
  obtain ⟨s, c, L, low, g1, g2⟩ := h.ex
  have := one_in g1.st.wid g1.st.pla g1.st.mem (rt := I.rt) (A := 256 * page) (by omega) (by have := h.fs.root.1; have := h.nb; omega) k true
  rw [one_guest h hp k] at this
  exact this
theorem Root_open {w : World} {tb pm pf bl : Nat} {g root : Int} {c : Nat → Int} (h : TbAt w tb pm pf bl g root true c) :
    Calls Tryd.prog 15 #[.pointer (some ⟨tb, 0, none⟩)] w fun r w' => r = .returned (.int .i64 root) ∧ w' = w := by
  obtain ⟨c0, c1, c2, c3, c4, c5, lt⟩ := h.cells
  have hb : ∀ w, (binOp .eql 29 (.map (some bl)) (.map none)).run Tryd.prog w = .ok (.bool false) w := fun w => by kernel_rfl
  have hno : Calls Tryd.prog 47 #[.pointer (some ⟨tb, 0, none⟩)] w fun r w' => r = .returned (.bool false) ∧ w' = w := by
    clear h
    go_enter Tryd.func47, Tryd.ntmps47
    go_wp2_with fail
    go_ret
    exact ⟨rfl, rfl⟩
  clear h hb
  go_enter Tryd.func15, Tryd.ntmps15
  go_wp2_with fail
  refine (hno).mono ?_
  rintro _ _ ⟨rfl, hw⟩
  rw [hw]
  clear hw
  clear hno
  go_wp2_with fail
  go_ret
  exact ⟨rfl, rfl⟩
theorem root_one {w : World} {I : Ids} {B T O E : Nat → Nat} {quo : Nat → Int} {G : GS} (h : One w I B T O E quo G) :
    Calls Tryd.prog 15 #[.pointer (some ⟨I.tb, 0, none⟩)] w fun r w' => r = .returned (.int .i64 I.rt) ∧ w' = w := by
  obtain ⟨s, c, L, low, g1, g2⟩ := h.ex
  exact Root_open g1.st.tab
end Go.Proofs.YtlchlklbjocliaaDoor

/- A guest's frames are given by Alloc; Protect with rights that may not be. -/
namespace Go.Proofs.YtlchlklbjocliaaDoor
open Go Go.RowKit
set_option linter.unusedSimpArgs false
set_option linter.unusedVariables false
set_option maxRecDepth 100000
theorem notin3 {x a b c : Nat} (h1 : x ≠ a) (h2 : x ≠ b) (h3 : x ≠ c) : x ∉ [a, b, c] := by
  simp only [List.mem_cons, List.not_mem_nil, or_false, not_or]
  exact ⟨h1, h2, h3⟩
theorem alloc_one {w : World} {I : Ids} {B T O E : Nat → Nat} {quo : Nat → Int} {G : GS} (h : One w I B T O E quo G) (hE : ∀ f, f < I.n → T f = 0 → E f = 1) :
    Calls Tryd.prog 29 #[.pointer (some ⟨I.fp, 0, none⟩), .int .i64 (I.o : Nat)] w fun r w' => ∃ kf e T' O', r = .returned (.tuple #[.int .i64 kf, .int .i64 e]) ∧ AllocR I.n I.first T O quo (I.o : Nat) T' O' kf e ∧ One w' I B T' O' E quo G ∧ Chg [I.fp, I.bt, I.bw] w w' := by
  obtain ⟨s, c, L, low, g1, g2⟩ := h.ex
  have y1 := g1.apg I.fp (Or.inl rfl)
  have y2 := g1.apg I.bt (Or.inr (Or.inl rfl))
  have y3 := g1.apg I.bw (Or.inr (Or.inr (Or.inl rfl)))
  have d1 := g1.apt
  have d2 := g1.apl
  have d3 := g1.apq
  refine (Alloc_all g1.fr (I.o : Nat)).mono ?_
  rintro _ w' ⟨kf, e, T', O', low', rfl, hF', hc, hR⟩
  refine ⟨kf, e, T', O', rfl, hR, h.foreign hF' (MemAt.chg h.mem hc (notin3 d3.1 d3.2.1 d3.2.2.1) (notin3 d3.2.2.2.1 d3.2.2.2.2.1 d3.2.2.2.2.2)) hc (notin3 d1.1 d1.2.1 d1.2.2.1) (notin3 d2.1 d2.2.1 d2.2.2.1) (notin3 y1.1.symm y2.1.symm y3.1.symm) (notin3 y1.2.symm y2.2.symm y3.2.symm) (fun _ _ => rfl) ?_ h.eb, hc⟩
  rcases hR with ⟨_, _, _, rfl, rfl⟩ | ⟨o, ho, _, ⟨_, _, _, rfl, rfl⟩ | ⟨_, _, _, _, rfl, rfl⟩ | ⟨_, j, _, hj, hfj, _, hT, _, rfl, rfl⟩⟩
  · exact h.fs
  · exact h.fs
  · exact h.fs
  · have : o = I.o := by omega
    rw [this]
    exact (h.fs.given hj hT hfj (hE j hj hT)).1
theorem protect_bad {w : World} {I : Ids} {B T O E : Nat → Nat} {quo : Nat → Int} {G : GS} (h : One w I B T O E quo G) (page : Int) (r x1 x2 : Bool) (hr : rightR r x1 x2 = false) :
    Calls Tryd.prog 17 #[.pointer (some ⟨I.tb, 0, none⟩), .int .i64 page, .agg #[.bool r, .bool x1, .bool x2]] w fun e w' => e = .returned (.int .i64 2) ∧ Grows w w' := by
  obtain ⟨s, c, L, low, g1, g2⟩ := h.ex
  exact Protect_bad g1.st page r x1 x2 hr
theorem root_one' {w : World} {I : Ids} {B T O E : Nat → Nat} {quo : Nat → Int} {G : GS} (h : One w I B T O E quo G) :
    Calls Tryd.prog 15 #[.pointer (some ⟨I.tb, 0, none⟩)] w fun r w' => r = .returned (.int .i64 I.rt) ∧ Grows w w' := by
  refine (root_one h).mono ?_
  rintro _ _ ⟨rfl, rfl⟩
  exact ⟨rfl, Grows.refl _⟩
theorem fndA_row (o : Option Nat) : ∃ (n k : Int) (b1 b2 b3 b4 : Bool), fndA o = #[.int .i64 n, .bool b1, .bool b2, .bool b3, .bool b4, .int .i64 k] := by
  cases o with
  | none => exact ⟨0, 0, false, false, false, false, rfl⟩
  | some v => exact ⟨_, _, _, _, _, _, rfl⟩
theorem wfnd_some {G : GS} {page : Nat} {g : Pg} (hg : G.pg page = some g) (k : Int) : (wfnd G page k).isSome = alw g k := by
  unfold wfnd
  rw [hg]
  cases h : alw g k <;> simp [h]
end Go.Proofs.YtlchlklbjocliaaDoor

