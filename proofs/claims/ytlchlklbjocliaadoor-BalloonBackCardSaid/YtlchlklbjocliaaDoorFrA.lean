/- What a Frames holds: what its functions answer. -/
import Derived.Test.YtlchlklbjocliaaDoorFr
import Derived.Test.YtlchlklbjocliaaDoorMapE
import Derived.Test.YtlchlklbjocliaaDoorChg
namespace Go.Proofs.YtlchlklbjocliaaDoor
open Go Go.RowKit
set_option linter.unusedSimpArgs false
set_option linter.unusedVariables false
set_option maxRecDepth 100000
/-- How many below n. -/
def cn (p : Nat → Bool) : Nat → Nat
  | 0 => 0
  | n + 1 => cn p n + if p n then 1 else 0
theorem cn_congr {p q : Nat → Bool} : ∀ {n : Nat}, (∀ i, i < n → p i = q i) → cn p n = cn q n
  | 0, _ => rfl
  | n + 1, h => by unfold cn; rw [cn_congr fun i hi => h i (by omega), h n (by omega)]
theorem cn_full {p : Nat → Bool} : ∀ {n : Nat}, (∀ i, i < n → p i = true) → cn p n = n
  | 0, _ => rfl
  | n + 1, h => by unfold cn; rw [cn_full fun i hi => h i (by omega), h n (by omega)]; rfl
theorem cn_none {p : Nat → Bool} : ∀ {n : Nat}, (∀ i, i < n → p i = false) → cn p n = 0
  | 0, _ => rfl
  | n + 1, h => by unfold cn; rw [cn_none fun i hi => h i (by omega), h n (by omega)]; rfl
theorem cn_le {p : Nat → Bool} : ∀ {n : Nat}, cn p n ≤ n
  | 0 => Nat.le_refl _
  | n + 1 => by unfold cn; have := cn_le (p := p) (n := n); split <;> omega
/-- One more. -/
theorem cn_add {p q : Nat → Bool} {i : Nat} : ∀ {n : Nat}, i < n → (∀ j, j < n → j ≠ i → p j = q j) → p i = false → q i = true → cn q n = cn p n + 1
  | 0, h, _, _, _ => by omega
  | n + 1, h, hne, h0, h1 => by
    unfold cn
    by_cases e : i = n
    · subst e
      rw [cn_congr (p := q) (q := p) (fun j hj => (hne j (by omega) (by omega)).symm), h0, h1]; rfl
    · rw [cn_add (by omega) (fun j hj hn => hne j (by omega) hn) h0 h1, hne n (by omega) (by omega)]; omega
def upF (f : Nat → Nat) (i v : Nat) : Nat → Nat := fun j => if j = i then v else f j
theorem upF_same (f : Nat → Nat) (i v : Nat) : upF f i v i = v := by unfold upF; rw [if_pos rfl]
theorem upF_ne (f : Nat → Nat) {i j : Nat} (v : Nat) (h : j ≠ i) : upF f i v j = f j := by unfold upF; rw [if_neg h]
/-- How many an owner has. -/
def ownC (n : Nat) (T O : Nat → Nat) (o : Nat) : Nat := cn (fun j => decide (0 < T j ∧ O j = o)) n
def heldC (n : Nat) (T : Nat → Nat) : Nat := cn (fun j => decide (0 < T j)) n
def tmF (n : Nat) (T : Nat → Nat) : Int → Option Int := fun x => if 0 ≤ x ∧ x < n ∧ 0 < T x.toNat then some (T x.toNat : Nat) else none
/-- The struct's cells. -/
def FrRow (w : World) (p bt bw n first : Nat) (own : Nat → Nat) (quo : Nat → Int) (low : Nat) : Prop :=
  ∃ cs t, Row w p cs t ∧ cs.size = 39 ∧ cs[0]? = some (.int .i64 n) ∧ cs[1]? = some (.int .i64 first) ∧ cs[2]? = some (.map (some bt)) ∧ cs[3]? = some (.map (some bw)) ∧
    (∀ i, i < 17 → cs[4 + i]? = some (.int .i64 (own i : Nat))) ∧ (∀ i, i < 17 → cs[21 + i]? = some (.int .i64 (quo i))) ∧ cs[38]? = some (.int .i64 low)
theorem FrRow.chg {S : List Nat} {w w' : World} {p bt bw n first low : Nat} {own : Nat → Nat} {quo : Nat → Int} (h : FrRow w p bt bw n first own quo low) (hc : Chg S w w') (hp : p ∉ S) : FrRow w' p bt bw n first own quo low := by
  obtain ⟨cs, t, hr, r⟩ := h
  exact ⟨cs, t, hr.chg hc hp, r⟩
theorem FrRow.lt {w : World} {p bt bw n first low : Nat} {own : Nat → Nat} {quo : Nat → Int} (h : FrRow w p bt bw n first own quo low) : p < w.heap.size := by
  obtain ⟨cs, t, hr, r⟩ := h
  exact hr.lt
theorem FrRow.frozen {w : World} {p bt bw n first low : Nat} {own : Nat → Nat} {quo : Nat → Int} (h : FrRow w p bt bw n first own quo low) (j : Nat) : w.frozen? ⟨p, j, none⟩ = false := by
  obtain ⟨cs, t, hr, r⟩ := h
  exact hr.frozen j
theorem FrRow.cells {w : World} {p bt bw n first low : Nat} {own : Nat → Nat} {quo : Nat → Int} (h : FrRow w p bt bw n first own quo low) :
    w.cell? ⟨p, 0, none⟩ = some (.int .i64 n) ∧ w.cell? ⟨p, 1, none⟩ = some (.int .i64 first) ∧ w.cell? ⟨p, 2, none⟩ = some (.map (some bt)) ∧ w.cell? ⟨p, 3, none⟩ = some (.map (some bw)) ∧ w.cell? ⟨p, 38, none⟩ = some (.int .i64 low) := by
  obtain ⟨cs, t, hr, _, h0, h1, h2, h3, _, _, h4⟩ := h
  exact ⟨by rw [hr.cell]; exact h0, by rw [hr.cell]; exact h1, by rw [hr.cell]; exact h2, by rw [hr.cell]; exact h3, by rw [hr.cell]; exact h4⟩
theorem FrRow.own {w : World} {p bt bw n first low : Nat} {own : Nat → Nat} {quo : Nat → Int} (h : FrRow w p bt bw n first own quo low) {i : Nat} (hi : i < 17) : w.cell? ⟨p, 4 + i, none⟩ = some (.int .i64 (own i : Nat)) := by
  obtain ⟨cs, t, hr, _, _, _, _, _, h5, _, _⟩ := h
  rw [hr.cell]; exact h5 i hi
theorem FrRow.quo {w : World} {p bt bw n first low : Nat} {own : Nat → Nat} {quo : Nat → Int} (h : FrRow w p bt bw n first own quo low) {i : Nat} (hi : i < 17) : w.cell? ⟨p, 21 + i, none⟩ = some (.int .i64 (quo i)) := by
  obtain ⟨cs, t, hr, _, _, _, _, _, _, h6, _⟩ := h
  rw [hr.cell]; exact h6 i hi
theorem FrRow.setOwn {w : World} {p bt bw n first low : Nat} {own : Nat → Nat} {quo : Nat → Int} (h : FrRow w p bt bw n first own quo low) {i : Nat} (hi : i < 17) (v : Nat) : FrRow (w.setCell ⟨p, 4 + i, none⟩ (.int .i64 (v : Nat))) p bt bw n first (upF own i v) quo low := by
  obtain ⟨cs, t, hr, h9, h0, h1, h2, h3, h5, h6, h7⟩ := h
  refine ⟨_, t, hr.setCell (i := 4 + i) (by omega) _, by simpa using h9, ?_, ?_, ?_, ?_, fun j hj => ?_, fun j hj => ?_, ?_⟩
  all_goals rw [Array.getElem?_set]
  · rw [if_neg (by omega)]; exact h0
  · rw [if_neg (by omega)]; exact h1
  · rw [if_neg (by omega)]; exact h2
  · rw [if_neg (by omega)]; exact h3
  · unfold upF
    by_cases e : j = i
    · subst e; rw [if_pos rfl, if_pos rfl]
    · rw [if_neg (by omega), if_neg e]; exact h5 j hj
  · rw [if_neg (by omega)]; exact h6 j hj
  · rw [if_neg (by omega)]; exact h7
theorem FrRow.setQuo {w : World} {p bt bw n first low : Nat} {own : Nat → Nat} {quo : Nat → Int} (h : FrRow w p bt bw n first own quo low) {i : Nat} (hi : i < 17) (v : Int) : FrRow (w.setCell ⟨p, 21 + i, none⟩ (.int .i64 v)) p bt bw n first own (fun j => if j = i then v else quo j) low := by
  obtain ⟨cs, t, hr, h9, h0, h1, h2, h3, h5, h6, h7⟩ := h
  refine ⟨_, t, hr.setCell (i := 21 + i) (by omega) _, by simpa using h9, ?_, ?_, ?_, ?_, fun j hj => ?_, fun j hj => ?_, ?_⟩
  all_goals rw [Array.getElem?_set]
  · rw [if_neg (by omega)]; exact h0
  · rw [if_neg (by omega)]; exact h1
  · rw [if_neg (by omega)]; exact h2
  · rw [if_neg (by omega)]; exact h3
  · rw [if_neg (by omega)]; exact h5 j hj
  · by_cases e : j = i
    · subst e; rw [if_pos rfl]; simp
    · rw [if_neg (by omega), h6 j hj]; simp [e]
  · rw [if_neg (by omega)]; exact h7
theorem FrRow.setLow {w : World} {p bt bw n first low : Nat} {own : Nat → Nat} {quo : Nat → Int} (h : FrRow w p bt bw n first own quo low) (v : Nat) : FrRow (w.setCell ⟨p, 38, none⟩ (.int .i64 (v : Nat))) p bt bw n first own quo v := by
  obtain ⟨cs, t, hr, h9, h0, h1, h2, h3, h5, h6, h7⟩ := h
  refine ⟨_, t, hr.setCell (i := 38) (by omega) _, by simpa using h9, ?_, ?_, ?_, ?_, fun j hj => ?_, fun j hj => ?_, ?_⟩
  all_goals rw [Array.getElem?_set]
  · rw [if_neg (by omega)]; exact h0
  · rw [if_neg (by omega)]; exact h1
  · rw [if_neg (by omega)]; exact h2
  · rw [if_neg (by omega)]; exact h3
  · rw [if_neg (by omega)]; exact h5 j hj
  · rw [if_neg (by omega)]; exact h6 j hj
  · rw [if_pos rfl]
/-- A Frames: n frames, whose times and owners are T and O. -/
structure FrAt (w : World) (p bt bw n first : Nat) (T O : Nat → Nat) (quo : Nat → Int) (low : Nat) : Prop where
  row : FrRow w p bt bw n first (ownC n T O) quo low
  tm : IMap Tryd.prog 3 3 w bt (heldC n T) (tmF n T)
  wh : ∃ s g, s ≤ heldC n T ∧ IMap Tryd.prog 3 3 w bw s g ∧ (∀ j, j < n → 0 < T j → (g j).getD 0 = O j) ∧ (∀ j : Nat, first ≤ j → j < n → 0 < T j → (g j).isSome) ∧ (∀ x : Int, ¬ (0 ≤ x ∧ x < n ∧ 0 < T x.toNat) → g x = none)
  n1 : 1 ≤ n
  n2 : n ≤ 65536
  fl : first ≤ low
  lo : low ≤ n
  below : ∀ j, j < low → 0 < T j
  ob : ∀ j, j < n → 0 < T j → O j < 17
  tb : ∀ j, j < n → T j ≤ 65536
  ne : p ≠ bt ∧ p ≠ bw ∧ bt ≠ bw
theorem IMap.chg' {S : List Nat} {w w' : World} {b s : Nat} {f : Int → Option Int} (h : IMap Tryd.prog 3 3 w b s f) (hc : Chg S w w') (hb : b ∉ S) : IMap Tryd.prog 3 3 w' b s f := h.of_block (hc.get h.lt hb)
theorem FrAt.chg {S : List Nat} {w w' : World} {p bt bw n first low : Nat} {T O : Nat → Nat} {quo : Nat → Int} (h : FrAt w p bt bw n first T O quo low) (hc : Chg S w w') (h1 : p ∉ S ∧ bt ∉ S ∧ bw ∉ S) : FrAt w' p bt bw n first T O quo low := by
  obtain ⟨s, g, g1, g2, g3⟩ := h.wh
  exact ⟨h.row.chg hc h1.1, IMap.chg' h.tm hc h1.2.1, ⟨s, g, g1, IMap.chg' g2 hc h1.2.2, g3⟩, h.n1, h.n2, h.fl, h.lo, h.below, h.ob, h.tb, h.ne⟩
theorem FrAt.grows {w w' : World} {p bt bw n first low : Nat} {T O : Nat → Nat} {quo : Nat → Int} (h : FrAt w p bt bw n first T O quo low) (hg : Grows w w') : FrAt w' p bt bw n first T O quo low := h.chg (S := []) (Chg.of_grows hg) (by simp)
theorem wf_of {x : Int} (h0 : -9223372036854775808 ≤ x) (h1 : x < 9223372036854775808) : wf64 x := by
  have e1 : IntKind.i64.min = -9223372036854775808 := by decide
  have e2 : IntKind.i64.max = 9223372036854775807 := by decide
  simp only [wf64, Lit.wf, e1, e2, Bool.and_eq_true, decide_eq_true_eq]
  omega
theorem zero_int (w : World) : (zeroValue 3).run Tryd.prog w = .ok (.int .i64 0) w := by
  have h : ∀ w, (zeroValue 3).run Tryd.prog w = .ok (.int .i64 0) w := fun w => by kernel_rfl
  exact h w
/-- How often a frame is had. -/
def timesOf (n : Nat) (T : Nat → Nat) (x : Int) : Nat := if 0 ≤ x ∧ x < n then T x.toNat else 0
theorem FrAt.look_t {w : World} {p bt bw n first low : Nat} {T O : Nat → Nat} {quo : Nat → Int} (h : FrAt w p bt bw n first T O quo low) {x : Int} (wx : wf64 x) :
    (Instr.lookup 29 (.map (some bt)) (.int .i64 x) false).run Tryd.prog w = .ok (.int .i64 (timesOf n T x : Nat)) w := by
  have := (h.tm.look Tryd.underlying3 Tryd.underlying3 Tryd.underlying29 (zero_int w) wx).1
  rw [this]
  congr 2
  unfold tmF timesOf
  by_cases h1 : 0 ≤ x ∧ x < n
  · by_cases h2 : 0 < T x.toNat
    · rw [if_pos ⟨h1.1, h1.2, h2⟩, if_pos h1]; rfl
    · rw [if_neg (fun h => h2 h.2.2), if_pos h1]
      have : T x.toNat = 0 := by omega
      rw [this]; rfl
  · rw [if_neg (fun h => h1 ⟨h.1, h.2.1⟩), if_neg h1]; rfl
theorem FrAt.look_w {w : World} {p bt bw n first low j : Nat} {T O : Nat → Nat} {quo : Nat → Int} (h : FrAt w p bt bw n first T O quo low) (hj : j < n) (hT : 0 < T j) :
    (Instr.lookup 29 (.map (some bw)) (.int .i64 j) false).run Tryd.prog w = .ok (.int .i64 (O j : Nat)) w := by
  obtain ⟨s, g, g1, g2, g3, g4⟩ := h.wh
  have hn := h.n2
  have := (g2.look Tryd.underlying3 Tryd.underlying3 Tryd.underlying29 (zero_int w) (K := (j : Int)) (wf_of (by omega) (by omega))).1
  rw [this, g3 j hj hT]
theorem FrAt.len_t {w : World} {p bt bw n first low : Nat} {T O : Nat → Nat} {quo : Nat → Int} (h : FrAt w p bt bw n first T O quo low) (ty : TypeId) :
    (Builtin.len_ #[29] ty #[.map (some bt)]).run Tryd.prog w = .ok (.int .i64 (heldC n T : Nat)) w := h.tm.len Tryd.underlying29 ty
end Go.Proofs.YtlchlklbjocliaaDoor
