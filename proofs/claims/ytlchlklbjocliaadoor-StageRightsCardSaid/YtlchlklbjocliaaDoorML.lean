/- Texts of one kind, laid together. -/
import Derived.Test.YtlchlklbjocliaaDoorMH
import Derived.Laws.Tables
import Derived.Test.YtlchlklbjocliaaDoorMK
/- The reference of the package stage: its tables as cells; New. -/
namespace Go.Proofs.YtlchlklbjocliaaDoor
open Go Go.RowKit
set_option linter.unusedSimpArgs false
set_option linter.unusedVariables false
set_option maxRecDepth 100000
/-- The cells of Tables that are zero. -/
noncomputable def zl : List Value := match Tryd.t135.zero with
  | some (.agg a) => a.toList
  | _ => []
def isB (v : Value) : Bool := match v with
  | .bool b => !b
  | _ => false
def isI (v : Value) : Bool := match v with
  | .int .i64 n => n == 0
  | _ => false
theorem isB_eq {v : Value} (h : isB v = true) : v = .bool false := by
  unfold isB at h
  cases v <;> simp at h
  rw [h]
theorem isI_eq {v : Value} (h : isI v = true) : v = .int .i64 0 := by
  unfold isI at h
  split at h
  · simp at h; rw [h]
  · cases h
def chkP : Nat → List Value → Bool
  | 0, _ => true
  | n + 1, a :: b :: c :: d :: e :: r => isB a && (isI b && (isB c && (isB d && (isB e && chkP n r))))
  | _ + 1, _ => false
def chkI : Nat → Nat → List Value → Bool
  | 0, m, l => chkP m l
  | n + 1, m, a :: r => isI a && chkI n m r
  | _ + 1, _, _ => false
theorem zl_chk : chkI 32 1024 (zl.drop 4) = true := by kernel_rfl
theorem zl_len : zl.length = 5156 := by kernel_rfl
theorem info_tab : Tryd.prog.info? 135 = some Tryd.t135 := by kernel_rfl
theorem chkP_spec : ∀ (n : Nat) (l : List Value), chkP n l = true → ∀ p, p < n → l[5 * p]? = some (.bool false) ∧ l[5 * p + 1]? = some (.int .i64 0) ∧ l[5 * p + 2]? = some (.bool false) ∧ l[5 * p + 3]? = some (.bool false) ∧ l[5 * p + 4]? = some (.bool false)
  | 0, _, _, p, hp => by omega
  | n + 1, [], h, _, _ => by simp [chkP] at h
  | n + 1, [_], h, _, _ => by simp [chkP] at h
  | n + 1, [_, _], h, _, _ => by simp [chkP] at h
  | n + 1, [_, _, _], h, _, _ => by simp [chkP] at h
  | n + 1, [_, _, _, _], h, _, _ => by simp [chkP] at h
  | n + 1, a :: b :: c :: d :: e :: r, h, p, hp => by
    simp only [chkP, Bool.and_eq_true] at h
    obtain ⟨h1, h2, h3, h4, h5, h6⟩ := h
    cases p with
    | zero => rw [isB_eq h1, isI_eq h2, isB_eq h3, isB_eq h4, isB_eq h5]; exact ⟨rfl, rfl, rfl, rfl, rfl⟩
    | succ p =>
      have := chkP_spec n r h6 p (by omega)
      exact this
theorem chkI_spec : ∀ (n m : Nat) (l : List Value), chkI n m l = true → (∀ k, k < n → l[k]? = some (.int .i64 0)) ∧ ∀ p, p < m → l[n + 5 * p]? = some (.bool false) ∧ l[n + 5 * p + 1]? = some (.int .i64 0) ∧ l[n + 5 * p + 2]? = some (.bool false) ∧ l[n + 5 * p + 3]? = some (.bool false) ∧ l[n + 5 * p + 4]? = some (.bool false)
  | 0, m, l, h => ⟨fun k hk => by omega, fun p hp => by simp only [Nat.zero_add]; exact chkP_spec m l h p hp⟩
  | n + 1, m, [], h => by simp [chkI] at h
  | n + 1, m, a :: r, h => by
    simp only [chkI, Bool.and_eq_true] at h
    obtain ⟨g1, g2⟩ := chkI_spec n m r h.2
    refine ⟨fun k hk => ?_, fun p hp => ?_⟩
    · cases k with
      | zero => rw [isI_eq h.1]; rfl
      | succ k => exact g1 k (by omega)
    · have := g2 p hp
      rw [show n + 1 + 5 * p = n + 5 * p + 1 by omega]
      exact this
theorem zl_cells : (∀ k, k < 32 → zl[4 + k]? = some (.int .i64 0)) ∧ ∀ p, p < 1024 → zl[36 + 5 * p]? = some (.bool false) ∧ zl[36 + 5 * p + 1]? = some (.int .i64 0) ∧ zl[36 + 5 * p + 2]? = some (.bool false) ∧ zl[36 + 5 * p + 3]? = some (.bool false) ∧ zl[36 + 5 * p + 4]? = some (.bool false) := by
  obtain ⟨g1, g2⟩ := chkI_spec 32 1024 _ zl_chk
  simp only [List.getElem?_drop] at g1 g2
  refine ⟨g1, fun p hp => ?_⟩
  obtain ⟨a, b, c, d, e⟩ := g2 p hp
  exact ⟨by rw [← a]; congr 1; omega, by rw [← b]; congr 1; omega, by rw [← c]; congr 1; omega, by rw [← d]; congr 1; omega, by rw [← e]; congr 1; omega⟩
def pgI : Option Pg → Int
  | some g => g.fr
  | none => 0
def pgB (k : Nat) : Option Pg → Bool
  | some g => if k = 0 then g.r else if k = 1 then g.w else g.x
  | none => false
def lwI : Option Nat → Int
  | some t => t
  | none => -1
/-- The reference's tables as cells. -/
def RtRow (w : World) (u rm rf : Nat) (g top : Int) (lw : Nat → Int) (pg : Nat → Option Pg) : Prop :=
  ∃ cs, Row w u cs 135 ∧ cs.size = 5156 ∧ cs[0]? = some (.pointer (some ⟨rm, 0, none⟩)) ∧ cs[1]? = some (.pointer (some ⟨rf, 0, none⟩)) ∧ cs[2]? = some (.int .i64 g) ∧ cs[3]? = some (.int .i64 top) ∧ (∀ k, k < 32 → cs[4 + k]? = some (.int .i64 (lw k))) ∧
    ∀ p, p < 1024 → cs[36 + p * 5]? = some (.bool (pg p).isSome) ∧ cs[36 + p * 5 + 1]? = some (.int .i64 (pgI (pg p))) ∧ cs[36 + p * 5 + 2]? = some (.bool (pgB 0 (pg p))) ∧ cs[36 + p * 5 + 3]? = some (.bool (pgB 1 (pg p))) ∧ cs[36 + p * 5 + 4]? = some (.bool (pgB 2 (pg p)))
theorem fill4 (place : Nat → Option (Nat × Nat)) (cells : Array Value) (h : 4 ≤ cells.size) (h0 : place 0 = some (0, 1)) (h1 : place 1 = some (1, 1)) (h2 : place 2 = some (2, 1)) (h3 : place 3 = some (3, 1)) (a b : Option Addr) (x y : Int) :
    Instr.fill place cells [(0, .pointer a), (1, .pointer b), (2, .int .i64 x), (3, .int .i64 y)] = some ((((cells.setIfInBounds 0 (.pointer a)).setIfInBounds 1 (.pointer b)).setIfInBounds 2 (.int .i64 x)).setIfInBounds 3 (.int .i64 y)) := by
  have e0 : ¬ (0 + 1 > cells.size) := by omega
  have e1 : ¬ (1 + 1 > cells.size) := by omega
  have e2 : ¬ (2 + 1 > cells.size) := by omega
  have e3 : ¬ (3 + 1 > cells.size) := by omega
  simp [Instr.fill, Value.cells, h0, h1, h2, h3]
  exact ⟨fun e => by rw [e] at h; simp at h, by omega, by omega, by omega⟩
noncomputable def newC (a b : Option Addr) (x y : Int) : Array Value := (((zl.toArray.setIfInBounds 0 (.pointer a)).setIfInBounds 1 (.pointer b)).setIfInBounds 2 (.int .i64 x)).setIfInBounds 3 (.int .i64 y)
theorem zero_tab : Tryd.t135.zero = some (.agg zl.toArray) := by kernel_rfl
theorem build_tab (a b : Option Addr) (x y : Int) (w : World) : (Instr.build 135 #[(0, .pointer a), (1, .pointer b), (2, .int .i64 x), (3, .int .i64 y)]).run Tryd.prog w = .ok (.agg (newC a b x y)) w := by
  refine run_build w _ _ _ ?_
  unfold Program.built
  rw [info_tab, Tryd.underlying135]
  simp only []
  rw [zero_tab]
  split
  · rename_i z places hz hp
    injection hz with hz
    subst hz
    have he : some places = some [(0, 1), (1, 1), (2, 1), (3, 1), (4, 32), (36, 5120)] := hp.symm.trans (by kernel_rfl)
    injection he with he
    subst he
    exact fill4 _ zl.toArray (by simp [zl_len]) rfl rfl rfl rfl a b x y
  · rename_i h
    exact (h _ [(0, 1), (1, 1), (2, 1), (3, 1), (4, 32), (36, 5120)] rfl (by kernel_rfl)).elim
theorem RtRow.made {w : World} {u rm rf : Nat} {g top : Int} (h : Row w u (newC (some ⟨rm, 0, none⟩) (some ⟨rf, 0, none⟩) g top) 135) : RtRow w u rm rf g top (fun _ => 0) (fun _ => none) := by
  have hz : zl.toArray.size = 5156 := by simp [zl_len]
  obtain ⟨z1, z2⟩ := zl_cells
  have hge : ∀ i, 4 ≤ i → (newC (some ⟨rm, 0, none⟩) (some ⟨rf, 0, none⟩) g top)[i]? = zl[i]? := fun i hi => by
    unfold newC
    rw [Array.getElem?_setIfInBounds, if_neg (by omega), Array.getElem?_setIfInBounds, if_neg (by omega), Array.getElem?_setIfInBounds, if_neg (by omega), Array.getElem?_setIfInBounds, if_neg (by omega), List.getElem?_toArray]
  refine ⟨_, h, by unfold newC; simp only [Array.size_setIfInBounds]; exact hz, ?_, ?_, ?_, ?_, fun k hk => ?_, fun p hp => ?_⟩
  · unfold newC; simp only [Array.getElem?_setIfInBounds, Array.size_setIfInBounds, hz]; rfl
  · unfold newC; simp only [Array.getElem?_setIfInBounds, Array.size_setIfInBounds, hz]; rfl
  · unfold newC; simp only [Array.getElem?_setIfInBounds, Array.size_setIfInBounds, hz]; rfl
  · unfold newC; simp only [Array.getElem?_setIfInBounds, Array.size_setIfInBounds, hz]; rfl
  · rw [hge _ (by omega)]; exact z1 k hk
  · obtain ⟨a, b, c, d, e⟩ := z2 p hp
    rw [Nat.mul_comm 5 p] at a b c d e
    exact ⟨by rw [hge _ (by omega)]; exact a, by rw [hge _ (by omega)]; exact b, by rw [hge _ (by omega)]; exact c, by rw [hge _ (by omega)]; exact d, by rw [hge _ (by omega)]; exact e⟩
theorem RtRow.lt {w : World} {u rm rf : Nat} {g top : Int} {lw : Nat → Int} {pg : Nat → Option Pg} (h : RtRow w u rm rf g top lw pg) : u < w.heap.size := by
  obtain ⟨cs, hr, _⟩ := h
  exact hr.lt
theorem RtRow.frozen {w : World} {u rm rf : Nat} {g top : Int} {lw : Nat → Int} {pg : Nat → Option Pg} (h : RtRow w u rm rf g top lw pg) (j : Nat) : w.frozen? ⟨u, j, none⟩ = false := by
  obtain ⟨cs, hr, _⟩ := h
  exact hr.frozen j
theorem RtRow.chg {S : List Nat} {w w' : World} {u rm rf : Nat} {g top : Int} {lw : Nat → Int} {pg : Nat → Option Pg} (h : RtRow w u rm rf g top lw pg) (hc : Chg S w w') (hu : u ∉ S) : RtRow w' u rm rf g top lw pg := by
  obtain ⟨cs, hr, r⟩ := h
  exact ⟨cs, hr.chg hc hu, r⟩
theorem RtRow.grows {w w' : World} {u rm rf : Nat} {g top : Int} {lw : Nat → Int} {pg : Nat → Option Pg} (h : RtRow w u rm rf g top lw pg) (hg : Grows w w') : RtRow w' u rm rf g top lw pg := h.chg (S := []) (Chg.of_grows hg) (by simp)
theorem RtRow.head {w : World} {u rm rf : Nat} {g top : Int} {lw : Nat → Int} {pg : Nat → Option Pg} (h : RtRow w u rm rf g top lw pg) : w.cell? ⟨u, 0, none⟩ = some (.pointer (some ⟨rm, 0, none⟩)) ∧ w.cell? ⟨u, 1, none⟩ = some (.pointer (some ⟨rf, 0, none⟩)) ∧ w.cell? ⟨u, 2, none⟩ = some (.int .i64 g) ∧ w.cell? ⟨u, 3, none⟩ = some (.int .i64 top) := by
  obtain ⟨cs, hr, _, h0, h1, h2, h3, _⟩ := h
  exact ⟨by rw [hr.cell]; exact h0, by rw [hr.cell]; exact h1, by rw [hr.cell]; exact h2, by rw [hr.cell]; exact h3⟩
theorem RtRow.low {w : World} {u rm rf : Nat} {g top : Int} {lw : Nat → Int} {pg : Nat → Option Pg} (h : RtRow w u rm rf g top lw pg) {k : Nat} (hk : k < 32) : w.cell? ⟨u, 4 + k, none⟩ = some (.int .i64 (lw k)) := by
  obtain ⟨cs, hr, _, _, _, _, _, h4, _⟩ := h
  rw [hr.cell]; exact h4 k hk
theorem RtRow.page {w : World} {u rm rf : Nat} {g top : Int} {lw : Nat → Int} {pg : Nat → Option Pg} (h : RtRow w u rm rf g top lw pg) {p : Nat} (hp : p < 1024) : w.cell? ⟨u, 36 + p * 5, none⟩ = some (.bool (pg p).isSome) ∧ w.cell? ⟨u, 36 + p * 5 + 1, none⟩ = some (.int .i64 (pgI (pg p))) ∧ w.cell? ⟨u, 36 + p * 5 + 2, none⟩ = some (.bool (pgB 0 (pg p))) ∧ w.cell? ⟨u, 36 + p * 5 + 3, none⟩ = some (.bool (pgB 1 (pg p))) ∧ w.cell? ⟨u, 36 + p * 5 + 4, none⟩ = some (.bool (pgB 2 (pg p))) := by
  obtain ⟨cs, hr, _, _, _, _, _, _, h5⟩ := h
  obtain ⟨a, b, c, d, e⟩ := h5 p hp
  exact ⟨by rw [hr.cell]; exact a, by rw [hr.cell]; exact b, by rw [hr.cell]; exact c, by rw [hr.cell]; exact d, by rw [hr.cell]; exact e⟩
theorem RtRow.setLow {w : World} {u rm rf : Nat} {g top : Int} {lw : Nat → Int} {pg : Nat → Option Pg} (h : RtRow w u rm rf g top lw pg) {k : Nat} (hk : k < 32) (v : Int) : RtRow (w.setCell ⟨u, 4 + k, none⟩ (.int .i64 v)) u rm rf g top (upC lw k v) pg := by
  obtain ⟨cs, hr, hs, h0, h1, h2, h3, h4, h5⟩ := h
  refine ⟨_, hr.setCell (i := 4 + k) (by omega) _, by simpa using hs, ?_, ?_, ?_, ?_, fun k' hk' => ?_, fun p hp => ?_⟩
  · rw [Array.getElem?_set, if_neg (by omega)]; exact h0
  · rw [Array.getElem?_set, if_neg (by omega)]; exact h1
  · rw [Array.getElem?_set, if_neg (by omega)]; exact h2
  · rw [Array.getElem?_set, if_neg (by omega)]; exact h3
  · rw [Array.getElem?_set]
    unfold upC
    by_cases e : k' = k
    · subst e; rw [if_pos rfl, if_pos rfl]
    · rw [if_neg (by omega), if_neg e]; exact h4 k' hk'
  · obtain ⟨a, b, c, d, e⟩ := h5 p hp
    exact ⟨by rw [Array.getElem?_set, if_neg (by omega)]; exact a, by rw [Array.getElem?_set, if_neg (by omega)]; exact b, by rw [Array.getElem?_set, if_neg (by omega)]; exact c, by rw [Array.getElem?_set, if_neg (by omega)]; exact d, by rw [Array.getElem?_set, if_neg (by omega)]; exact e⟩
theorem RtRow.setTop {w : World} {u rm rf : Nat} {g top : Int} {lw : Nat → Int} {pg : Nat → Option Pg} (h : RtRow w u rm rf g top lw pg) (v : Int) : RtRow (w.setCell ⟨u, 3, none⟩ (.int .i64 v)) u rm rf g v lw pg := by
  obtain ⟨cs, hr, hs, h0, h1, h2, h3, h4, h5⟩ := h
  refine ⟨_, hr.setCell (i := 3) (by omega) _, by simpa using hs, ?_, ?_, ?_, ?_, fun k' hk' => ?_, fun p hp => ?_⟩
  · rw [Array.getElem?_set, if_neg (by omega)]; exact h0
  · rw [Array.getElem?_set, if_neg (by omega)]; exact h1
  · rw [Array.getElem?_set, if_neg (by omega)]; exact h2
  · rw [Array.getElem?_set, if_pos rfl]
  · rw [Array.getElem?_set, if_neg (by omega)]; exact h4 k' hk'
  · obtain ⟨a, b, c, d, e⟩ := h5 p hp
    exact ⟨by rw [Array.getElem?_set, if_neg (by omega)]; exact a, by rw [Array.getElem?_set, if_neg (by omega)]; exact b, by rw [Array.getElem?_set, if_neg (by omega)]; exact c, by rw [Array.getElem?_set, if_neg (by omega)]; exact d, by rw [Array.getElem?_set, if_neg (by omega)]; exact e⟩
theorem RtRow.congr {w : World} {u rm rf : Nat} {g top : Int} {lw lw' : Nat → Int} {pg pg' : Nat → Option Pg} (h : RtRow w u rm rf g top lw pg) (hl : ∀ k, k < 32 → lw k = lw' k) (hp : ∀ p, p < 1024 → pg p = pg' p) : RtRow w u rm rf g top lw' pg' := by
  obtain ⟨cs, hr, hs, h0, h1, h2, h3, h4, h5⟩ := h
  exact ⟨cs, hr, hs, h0, h1, h2, h3, fun k hk => by rw [← hl k hk]; exact h4 k hk, fun p hp' => by rw [← hp p hp']; exact h5 p hp'⟩
end Go.Proofs.YtlchlklbjocliaaDoor

/- The reference of the package stage: table, New. -/
namespace Go.Proofs.YtlchlklbjocliaaDoor
open Go Go.RowKit
set_option linter.unusedSimpArgs false
set_option linter.unusedVariables false
set_option maxRecDepth 100000
theorem ralloc0 {n first k : Nat} {T O : Nat → Nat} {quo : Nat → Int} (hk : k < n) (hf : first ≤ k) (hl : ∀ i, i < k → 0 < T i) (hT : T k = 0) (hq : (ownC n T O 0 : Int) < quo 0) : AllocR n first T O quo 0 (upF T k 1) (upF O k 0) (k : Nat) 0 :=
  Or.inr ⟨0, rfl, by omega, Or.inr (Or.inr ⟨hq, k, rfl, hk, hf, hl, hT, rfl, rfl, rfl⟩)⟩
theorem rtable_ok {w : World} {rm rq N rf rfq n first k : Nat} {B T O : Nat → Nat} {quo : Nat → Int} (hM : RMem w rm rq N B) (hF : RfAt w rf rfq n first T O quo) (hk : k < n) (hf : first ≤ k) (hl : ∀ i, i < k → 0 < T i) (hT : T k = 0) (hq : (ownC n T O 0 : Int) < quo 0) (hkN : k < N / 256) (hd : rm ≠ rf ∧ rm ≠ rfq ∧ rq ≠ rf ∧ rq ≠ rfq) :
    Calls Tryd.prog 83 #[.pointer (some ⟨rm, 0, none⟩), .pointer (some ⟨rf, 0, none⟩)] w fun r w' => r = .returned (.tuple #[.int .i64 k, .int .i64 0]) ∧ RfAt w' rf rfq n first (upF T k 1) (upF O k 0) quo ∧ RMem w' rm rq N (putB B (k * 256) (List.replicate 256 0)) ∧ Chg [rf, rfq, rq] w w' := by
  have hal := RAlloc_all hF (ralloc0 hk hf hl hT hq)
  have HD := Lib.hid hd
  have HM := Lib.hid hM
  have hkN' := hkN
  clear hF hk hf hl hT hq hM hd
  go_enter Tryd.func83, Tryd.ntmps83
  go_wp2_with fail
  refine hal.mono ?_
  rintro _ w1 ⟨rfl, hF1, hc1⟩
  have hM1 : RMem w1 rm rq N B := MemAt.chg HM.out hc1 (by have := HD.out; simp; omega) (by have := HD.out; simp; omega)
  have hcl := rClear_ok hM1 k hkN'
  have HF1 := Lib.hid hF1
  have HC1 := Lib.hid hc1
  clear hal hF1 hc1 hM1 HM hkN hkN'
  go_wp2_with fail
  refine hcl.mono ?_
  rintro _ w2 ⟨rfl, hM2, hc2⟩
  have HF2 := Lib.hid (HF1.out.chg hc2 (by have := HD.out; simp; omega))
  have HM2 := Lib.hid hM2
  have HC2 := Lib.hid ((HC1.out.weaken (T := [rf, rfq, rq]) (by simp)).trans (hc2.weaken (T := [rf, rfq, rq]) (by simp)))
  clear hcl hM2 hc2 HF1 HC1
  go_wp2_with fail
  go_ret2
  exact ⟨rfl, HF2.out, HM2.out, HC2.out⟩
theorem rtable_bad {w : World} {rm rf rfq n first : Nat} {T O T' O' : Nat → Nat} {quo : Nat → Int} {kf e : Int} (hF : RfAt w rf rfq n first T O quo) (hR : AllocR n first T O quo 0 T' O' kf e) (he : e ≠ 0) :
    Calls Tryd.prog 83 #[.pointer (some ⟨rm, 0, none⟩), .pointer (some ⟨rf, 0, none⟩)] w fun r w' => r = .returned (.tuple #[.int .i64 0, .int .i64 e]) ∧ RfAt w' rf rfq n first T' O' quo ∧ Chg [rf, rfq] w w' := by
  have hal := RAlloc_all hF hR
  have he' : (e == 0) = false := by simp; exact he
  have he'' : (e != 0) = true := by simp; exact he
  clear hF hR
  go_enter Tryd.func83, Tryd.ntmps83
  go_wp2_with fail
  refine hal.mono ?_
  rintro _ w1 ⟨rfl, hF1, hc1⟩
  have HF1 := Lib.hid hF1
  have HC1 := Lib.hid hc1
  clear hal hF1 hc1
  go_wp2_with fail
  go_ret2
  exact ⟨rfl, HF1.out, HC1.out⟩
theorem zc_tab : Tryd.zeroCells135 = zl.toArray := by kernel_rfl
set_option maxHeartbeats 1000000 in
theorem rnew17_ok {w : World} {rm rq N rf rfq n first k : Nat} {B T O : Nat → Nat} {quo : Nat → Int} (hM : RMem w rm rq N B) (hF : RfAt w rf rfq n first T O quo) (hk : k < n) (hf : first ≤ k) (hl : ∀ i, i < k → 0 < T i) (hT : T k = 0) (hq : (ownC n T O 0 : Int) < quo 0) (hkN : k < N / 256) (hd : rm ≠ rf ∧ rm ≠ rfq ∧ rq ≠ rf ∧ rq ≠ rfq) {g : Int} (hg1 : 1 ≤ g) (hg2 : g ≤ 16) :
    Calls Tryd.prog 56 #[.pointer (some ⟨rm, 0, none⟩), .pointer (some ⟨rf, 0, none⟩), .int .i64 g] w fun r w' => ∃ u, r = .returned (.tuple #[.pointer (some ⟨u, 0, none⟩), .int .i64 0]) ∧ RtRow w' u rm rf g (k : Nat) (fun _ => -1) (fun _ => none) ∧ RfAt w' rf rfq n first (upF T k 1) (upF O k 0) quo ∧ RMem w' rm rq N (putB B (k * 256) (List.replicate 256 0)) ∧ w.heap.size ≤ u ∧ Chg [rf, rfq, rq] w w' := by
  have htb := rtable_ok hM hF hk hf hl hT hq hkN hd
  have d1 : decide (g < 1) = false := decide_eq_false (by omega)
  have d2 : decide (16 < g) = false := decide_eq_false (by omega)
  have hbd := build_tab (some ⟨rm, 0, none⟩) (some ⟨rf, 0, none⟩) g (k : Nat)
  have HB := Lib.hid (hM.plt)
  clear hM hF hk hf hl hT hq hkN hd
  go_enter Tryd.func56, Tryd.ntmps56
  go_wp2_with fail
  refine htb.mono ?_
  rintro _ w1 ⟨rfl, hF1, hM1, hc1⟩
  have HF1 := Lib.hid hF1
  have HM1 := Lib.hid hM1
  have HC1 := Lib.hid hc1
  clear htb hF1 hM1 hc1
  go_upto_region 7 with fail
  obtain ⟨u, hu⟩ : ∃ u, u = w1.heap.size := ⟨_, rfl⟩
  obtain ⟨W2, hW2⟩ : ∃ W2, W2 = w1.alloc (Obj.cells ((((Tryd.zeroCells135.setIfInBounds 0 (.pointer (some ⟨rm, 0, none⟩))).setIfInBounds 1 (.pointer (some ⟨rf, 0, none⟩))).setIfInBounds 2 (.int .i64 g)).setIfInBounds 3 (.int .i64 (k : Nat))) 135) := ⟨_, rfl⟩
  obtain ⟨zz, hzz⟩ : ∃ zz, zz = Tryd.zeroCells135 := ⟨_, rfl⟩
  rw [← hW2, ← hu, ← hzz]
  have hr2 : Row W2 u (newC (some ⟨rm, 0, none⟩) (some ⟨rf, 0, none⟩) g (k : Nat)) 135 := by
    rw [hW2, zc_tab]
    exact Row.new_at _ _ _ hu
  have hg2 : Grows w1 W2 := by rw [hW2]; exact (Grows.refl _).alloc _
  have HU : Hid (w1.heap.size ≤ u ∧ rm < u ∧ w.heap.size ≤ u) := Lib.hid (by have := HB.out; have := HC1.out.size; have := HM1.out.plt; omega)
  have HR2 := Lib.hid (RtRow.made hr2)
  have HG2 := Lib.hid hg2
  clear hW2 hu hr2 hg2 hbd hzz
  go_wp2_with fail
  go_loopw [11] (fun x wx => ∃ (i : Nat) (lw : Nat → Int), i ≤ 32 ∧ x = .int .i64 i ∧ RtRow wx u rm rf g (k : Nat) lw (fun _ => none) ∧ (∀ j, j < i → lw j = -1) ∧ Chg [u] W2 wx) (fun x _ => (32 - intOf x).toNat)
  case atStart => exact ⟨0, _, by omega, rfl, HR2.out, fun j hj => by omega, Chg.refl _ _⟩
  case round =>
    obtain ⟨i, lw, hi, rfl, hR, hl, hC⟩ := hrel
    have HR := Lib.hid hR
    have HL := Lib.hid hl
    have HC := Lib.hid hC
    clear hR hl hC HR2
    by_cases h32 : i < 32
    · have lt := HR.out.lt
      have cc := HR.out.low h32
      have ff := HR.out.frozen (4 + i)
      go_wp2_with fail
      refine ⟨⟨i + 1, upC lw i (-1), by omega, by simp, HR.out.setLow h32 (-1), fun j hj => ?_, HC.out.setCell (Or.inl (by simp)) _ _⟩, by simp [intOf]; omega⟩
      unfold upC
      split
      · rfl
      · exact HL.out j (by omega)
    · obtain rfl : i = 32 := by omega
      have hRf := HR.out.congr (lw' := fun _ => -1) (pg' := fun _ => none) (fun j hj => HL.out j hj) (fun _ _ => rfl)
      have hC2 : Chg [rf, rfq, rq] w wr := (HC1.out.grows HG2.out).step HC.out (fun j hj => Or.inr (by simp at hj; have := HU.out; omega))
      have hl1 := HF1.out.lt
      have hl2 := HM1.out.plt
      have hl3 := HM1.out.qlt
      have hF2 := (HF1.out.grows HG2.out).chg HC.out (by have := HU.out; simp; omega)
      have hM2 : RMem wr rm rq N (putB B (k * 256) (List.replicate 256 0)) := MemAt.chg (MemAt.grows HM1.out HG2.out) HC.out (by have := HU.out; simp; omega) (by have := HU.out; simp; omega)
      have HX := Lib.hid (⟨hRf, hF2, hM2, hC2⟩ : _ ∧ _ ∧ _ ∧ _)
      clear hRf hC2 hF2 hM2 HR HL HC HF1 HM1 HC1 HG2 hl1 hl2 hl3
      go_wp2_with fail
      go_ret2
      exact ⟨u, rfl, HX.out.1, HX.out.2.1, HX.out.2.2.1, HU.out.2.2, HX.out.2.2.2⟩
end Go.Proofs.YtlchlklbjocliaaDoor

/- Chapter 17's begin: two guests' tables, the program's and the reference's. -/
namespace Go.Proofs.YtlchlklbjocliaaDoor
open Go Go.RowKit
set_option linter.unusedSimpArgs false
set_option linter.unusedVariables false
set_option maxRecDepth 100000
theorem cn_mono {p q : Nat → Bool} : ∀ {n : Nat}, (∀ i, i < n → p i = true → q i = true) → cn p n ≤ cn q n
  | 0, _ => Nat.le_refl _
  | n + 1, h => by
    unfold cn
    have := cn_mono (p := p) (q := q) (n := n) (fun i hi => h i (by omega))
    have h2 := h n (by omega)
    cases hp : p n
    · simp; omega
    · rw [h2 hp]; omega
theorem ownC_le_held (n : Nat) (T O : Nat → Nat) (o : Nat) : ownC n T O o ≤ heldC n T :=
  cn_mono fun i _ h => by simp at h ⊢; exact h.1
theorem free_of_held {n : Nat} {T : Nat → Nat} (h : heldC n T < n) : ∃ j, j < n ∧ T j = 0 := by
  refine Classical.byContradiction fun hn => ?_
  have : heldC n T = n := cn_full fun i hi => by
    refine decide_eq_true ?_
    refine Classical.byContradiction fun hT => hn ⟨i, hi, by omega⟩
  omega
/-- The blocks lie one group behind the other. -/
structure Ord (K0 : Nat) (wb pm q rm rq fp bt bw rf rfq tb1 bl1 u1 tb2 bl2 u2 : Nat) : Prop where
  ex : ∃ K1 K2 K3 K4 K5 K6 K7 K8 : Nat, K0 ≤ wb ∧ wb < K1 ∧ K1 ≤ pm ∧ K1 ≤ q ∧ pm < K2 ∧ q < K2 ∧ K2 ≤ rm ∧ K2 ≤ rq ∧ rm < K3 ∧ rq < K3 ∧ K3 ≤ fp ∧ K3 ≤ bt ∧ K3 ≤ bw ∧ fp < K4 ∧ bt < K4 ∧ bw < K4 ∧ K4 ≤ rf ∧ K4 ≤ rfq ∧ rf < K5 ∧ rfq < K5 ∧ K5 ≤ tb1 ∧ K5 ≤ bl1 ∧ tb1 < K6 ∧ bl1 < K6 ∧ K6 ≤ u1 ∧ u1 < K7 ∧ K7 ≤ tb2 ∧ K7 ≤ bl2 ∧ tb2 < K8 ∧ bl2 < K8 ∧ K8 ≤ u2
abbrev bRow (pm fp tb1 tb2 rm rf u1 u2 : Nat) : Array Value := #[.pointer (some ⟨pm, 0, none⟩), .pointer (some ⟨fp, 0, none⟩), .pointer (some ⟨tb1, 0, none⟩), .pointer (some ⟨tb2, 0, none⟩), .pointer (some ⟨rm, 0, none⟩), .pointer (some ⟨rf, 0, none⟩), .pointer (some ⟨u1, 0, none⟩), .pointer (some ⟨u2, 0, none⟩)]
/-- What stands behind begin, and between the acts. -/
structure BgAt (W w : World) (wb : Nat) (I J : Ids) (rm rq rf rfq u1 u2 : Nat) (B T O : Nat → Nat) (quo : Nat → Int) (G H : GS) : Prop where
  i : One w I B T O (fun _ => 1) quo G
  j : One w J B T O (fun _ => 1) quo H
  kin : Kin I J
  sep : Sep I.rt J.rt G H
  mm : RMem w rm rq I.N B
  ff : RfAt w rf rfq I.n I.first T O quo
  ri : RtRow w u1 rm rf I.o I.rt (fun k => lwI (G.lw k)) G.pg
  rj : RtRow w u2 rm rf J.o J.rt (fun k => lwI (H.lw k)) H.pg
  row : Row w wb (bRow I.pm I.fp I.tb J.tb rm rf u1 u2) 65
  base : Grows W w
/-- Before the first guest. -/
structure B0At (w : World) (wb pm q rm rq fp bt bw rf rfq n first : Nat) : Prop where
  row : Row w wb #[.pointer (some ⟨pm, 0, none⟩), .pointer (some ⟨fp, 0, none⟩), .pointer none, .pointer none, .pointer (some ⟨rm, 0, none⟩), .pointer (some ⟨rf, 0, none⟩), .pointer none, .pointer none] 65
  mem : Mem w pm q (n * 256) (fun _ => 0)
  mm : RMem w rm rq (n * 256) (fun _ => 0)
  fr : FrAt w fp bt bw n first (fstT first) (fun _ => 0) (fun _ => (n : Int)) first
  ff : RfAt w rf rfq n first (fstT first) (fun _ => 0) (fun _ => (n : Int))
  wid : Widths w
  pla : Places w
/-- Between the guests. -/
structure B1At (w : World) (wb : Nat) (I : Ids) (rm rq rf rfq u1 : Nat) (B T O : Nat → Nat) (quo : Nat → Int) : Prop where
  i : One w I B T O (fun _ => 1) quo GS.empty
  mm : RMem w rm rq I.N B
  ff : RfAt w rf rfq I.n I.first T O quo
  ri : RtRow w u1 rm rf I.o I.rt (fun _ => -1) (fun _ => none)
  row : Row w wb #[.pointer (some ⟨I.pm, 0, none⟩), .pointer (some ⟨I.fp, 0, none⟩), .pointer (some ⟨I.tb, 0, none⟩), .pointer none, .pointer (some ⟨rm, 0, none⟩), .pointer (some ⟨rf, 0, none⟩), .pointer (some ⟨u1, 0, none⟩), .pointer none] 65
/-- What begin leaves. -/
def BegR (W w' : World) (n first wb : Nat) : Prop :=
  ∃ I J rm rq rf rfq u1 u2 k1 k2, BgAt W w' wb I J rm rq rf rfq u1 u2 (putB (putB (fun _ => 0) (k1 * 256) (List.replicate 256 0)) (k2 * 256) (List.replicate 256 0)) (upF (upF (fstT first) k1 1) k2 1) (upF (upF (fun _ => 0) k1 0) k2 0) (fun _ => (n : Int)) GS.empty GS.empty ∧
      Ord W.heap.size wb I.pm I.q rm rq I.fp I.bt I.bw rf rfq I.tb I.bl u1 J.tb J.bl u2 ∧ (I.n = n ∧ I.first = first ∧ I.o = 1 ∧ J.o = 2 ∧ I.N = n * 256) ∧ (k1 < n ∧ k2 < n ∧ fstT first k1 = 0 ∧ upF (fstT first) k1 1 k2 = 0)
set_option maxHeartbeats 4000000 in
theorem begin17_ok {W : World} (hT : Widths W) (hP : Places W) {n first : Nat} (h1 : 1 ≤ n) (h2 : n ≤ 256) (hf : first + 3 ≤ n) :
    Calls Tryd.prog 22 #[.int .i64 n, .int .i64 n, .int .i64 first] W fun r w' => ∃ wb : Nat, r = .returned (.tuple #[.pointer (some ⟨wb, 0, none⟩), .int .i64 1]) ∧ BegR W w' n first wb := by
  have HZ := Lib.hid (⟨hT, hP⟩ : Widths W ∧ Places W)
  clear hT hP
  go_enter Tryd.func22, Tryd.ntmps22
  go_upto_region 2 with fail
  obtain ⟨W1, hW1⟩ : ∃ W1, W1 = W.alloc (Obj.cells #[.pointer none, .pointer none, .pointer none, .pointer none, .pointer none, .pointer none, .pointer none, .pointer none] 65) := ⟨_, rfl⟩
  obtain ⟨wb, hwb⟩ : ∃ b, b = W.heap.size := ⟨_, rfl⟩
  rw [← hW1, ← hwb]
  have hr1 : Row W1 wb #[.pointer none, .pointer none, .pointer none, .pointer none, .pointer none, .pointer none, .pointer none, .pointer none] 65 := by rw [hW1]; exact Row.new_at _ _ _ hwb
  have hg01 : Grows W W1 := by rw [hW1]; exact (Grows.refl _).alloc _
  have hwl := hr1.lt
  have hK0 : W.heap.size ≤ wb := by omega
  clear hW1 hwb
  go_wp2_with fail
  refine (new_ok n (by omega) (by omega) _).mono ?_
  rintro _ w1 ⟨pm, q, rfl, hM1, hg1, hpm, hq, hqp⟩
  have hl1 := hM1.plt
  have hl2 := hM1.qlt
  go_wp2_with fail
  refine (rnew_ok n (by omega) (by omega) _).mono ?_
  rintro _ w2 ⟨rm, rq, rfl, hM2, hg2, hrm, hrq, hqr⟩
  have hl3 := hM2.plt
  have hl4 := hM2.qlt
  have hfn := fnew_ok w2 (n := n) (first := first) (by omega) (by omega) (by omega)
  go_wp2_with fail
  refine hfn.mono ?_
  rintro _ w3 ⟨fp, bt, bw, rfl, hF3, hg3, hfp, hbt, hbw⟩
  have hl5 := hF3.row.lt
  have hl6 := hF3.tm.lt
  have hl7 : bw < w3.heap.size := by obtain ⟨s', g', _, g2, _⟩ := hF3.wh; exact g2.lt
  have hrf := rfnew_ok w3 (n := n) (first := first) (by omega) (by omega) (by omega)
  clear hfn
  go_wp2_with fail
  refine hrf.mono ?_
  rintro _ w4 ⟨rf, rfq, rfl, hR4, hg4, hrf', hrfq⟩
  have hl8 := hR4.lt
  clear hrf
  have hg14 := hg1.trans (hg2.trans (hg3.trans hg4))
  have hr4 := hr1.grows hg14
  have lt := hr4.lt
  have d0 : w4.cell? ⟨wb, 0, none⟩ = some (.pointer none) := hr4.cell 0
  have d1 : w4.cell? ⟨wb, 1, none⟩ = some (.pointer none) := hr4.cell 1
  have d4 : w4.cell? ⟨wb, 4, none⟩ = some (.pointer none) := hr4.cell 4
  have d5 : w4.cell? ⟨wb, 5, none⟩ = some (.pointer none) := hr4.cell 5
  have f0 := hr4.frozen 0
  have f1 := hr4.frozen 1
  have f4 := hr4.frozen 4
  have f5 := hr4.frozen 5
  have HG4 := Lib.hid (hg01.trans hg14)
  have HM4 := Lib.hid (MemAt.grows hM1 (hg2.trans (hg3.trans hg4)))
  have HN4 : Hid (RMem w4 rm rq (n * 256) (fun _ => 0)) := Lib.hid (MemAt.grows hM2 (hg3.trans hg4))
  have HF4 := Lib.hid (hF3.grows hg4)
  have HR4 := Lib.hid hR4
  have HW4 := Lib.hid hr4
  have HK : Hid (W.heap.size ≤ wb ∧ wb < W1.heap.size ∧ W1.heap.size ≤ pm ∧ W1.heap.size ≤ q ∧ pm < w1.heap.size ∧ q < w1.heap.size ∧ w1.heap.size ≤ rm ∧ w1.heap.size ≤ rq ∧ rm < w2.heap.size ∧ rq < w2.heap.size ∧ w2.heap.size ≤ fp ∧ w2.heap.size ≤ bt ∧ w2.heap.size ≤ bw ∧ fp < w3.heap.size ∧ bt < w3.heap.size ∧ bw < w3.heap.size ∧ w3.heap.size ≤ rf ∧ w3.heap.size ≤ rfq ∧ rf < w4.heap.size ∧ rfq < w4.heap.size) := Lib.hid ⟨hK0, hwl, hpm, hq, hl1, hl2, hrm, hrq, hl3, hl4, hfp, hbt, hbw, hl5, hl6, hl7, hrf', hrfq, hl8.1, hl8.2⟩
  have HSZ : Hid (W.heap.size ≤ W1.heap.size) := Lib.hid hg01.size
  clear hr1 hg01 hwl hK0 hM1 hg1 hpm hq hqp hl1 hl2 hM2 hg2 hrm hrq hqr hl3 hl4 hF3 hg3 hfp hbt hbw hl5 hl6 hl7 hR4 hg4 hrf' hrfq hl8 hg14 hr4
  go_upto_region 11 with fail
  obtain ⟨W5, hW5⟩ : ∃ W5, W5 = ((((w4.setCell ⟨wb, 0, none⟩ (.pointer (some ⟨pm, 0, none⟩))).setCell ⟨wb, 1, none⟩ (.pointer (some ⟨fp, 0, none⟩))).setCell ⟨wb, 4, none⟩ (.pointer (some ⟨rm, 0, none⟩))).setCell ⟨wb, 5, none⟩ (.pointer (some ⟨rf, 0, none⟩))) := ⟨_, rfl⟩
  rw [← hW5]
  have hr5 : Row W5 wb #[.pointer (some ⟨pm, 0, none⟩), .pointer (some ⟨fp, 0, none⟩), .pointer none, .pointer none, .pointer (some ⟨rm, 0, none⟩), .pointer (some ⟨rf, 0, none⟩), .pointer none, .pointer none] 65 := by
    rw [hW5]
    have h0 := row_setCell HW4.out (i := 0) (by simp) (.pointer (some ⟨pm, 0, none⟩))
    have h1 := row_setCell h0 (i := 1) (by simp) (.pointer (some ⟨fp, 0, none⟩))
    have h4 := row_setCell h1 (i := 4) (by simp) (.pointer (some ⟨rm, 0, none⟩))
    have h5 := row_setCell h4 (i := 5) (by simp) (.pointer (some ⟨rf, 0, none⟩))
    simpa using h5
  have hc5 : Chg [wb] w4 W5 := by rw [hW5]; exact ((((Chg.refl _ _).setCell (Or.inl (by simp)) _ _).setCell (Or.inl (by simp)) _ _).setCell (Or.inl (by simp)) _ _).setCell (Or.inl (by simp)) _ _
  have hg5 : Grows W W5 := hc5.to_grows HG4.out (by have := HK.out; simp; omega)
  have hz1 := HZ.out.1.1
  have hz2 := HZ.out.2.1
  have hsz := HG4.out.size
  have hS0 : B0At W5 wb pm q rm rq fp bt bw rf rfq n first := by
    have := HK.out
    have := HSZ.out
    exact ⟨hr5, MemAt.chg HM4.out hc5 (by simp; omega) (by simp; omega), MemAt.chg HN4.out hc5 (by simp; omega) (by simp; omega), HF4.out.chg hc5 (by simp; omega), HR4.out.chg hc5 (by simp; omega), HZ.out.1.grows hg5, HZ.out.2.grows hg5⟩
  have HS0 := Lib.hid hS0
  have HG5 := Lib.hid hg5
  have HL5 : Hid (w4.heap.size ≤ W5.heap.size) := Lib.hid hc5.size
  have HZZ := Lib.hid (⟨hz1, hz2⟩ : 1 < W.heap.size ∧ 0 < W.heap.size)
  clear hW5 hr5 hc5 hg5 hz1 hz2 hsz hS0 HG4 HM4 HN4 HF4 HR4 HW4 d0 d1 d4 d5 f0 f1 f4 f5 lt
  go_wp2_with fail
  go_loopw [17] (fun x wx => ∃ k : Nat, k ≤ 2 ∧ x = .int .i64 k ∧ Grows W wx ∧ w4.heap.size ≤ wx.heap.size ∧ (k = 0 → B0At wx wb pm q rm rq fp bt bw rf rfq n first) ∧
    (k = 1 → ∃ I u1, B1At wx wb I rm rq rf rfq u1 (putB (fun _ => 0) (I.rt * 256) (List.replicate 256 0)) (upF (fstT first) I.rt 1) (upF (fun _ => 0) I.rt 0) (fun _ => (n : Int)) ∧ I.rt < n ∧ fstT first I.rt = 0 ∧ (I.n = n ∧ I.first = first ∧ I.o = 1 ∧ I.N = n * 256 ∧ I.pm = pm ∧ I.q = q ∧ I.fp = fp ∧ I.bt = bt ∧ I.bw = bw) ∧ ∃ K6, w4.heap.size ≤ I.tb ∧ w4.heap.size ≤ I.bl ∧ I.tb < K6 ∧ I.bl < K6 ∧ K6 ≤ u1) ∧
    (k = 2 → ∃ I J u1 u2, BgAt W wx wb I J rm rq rf rfq u1 u2 (putB (putB (fun _ => 0) (I.rt * 256) (List.replicate 256 0)) (J.rt * 256) (List.replicate 256 0)) (upF (upF (fstT first) I.rt 1) J.rt 1) (upF (upF (fun _ => 0) I.rt 0) J.rt 0) (fun _ => (n : Int)) GS.empty GS.empty ∧ Ord W.heap.size wb I.pm I.q rm rq I.fp I.bt I.bw rf rfq I.tb I.bl u1 J.tb J.bl u2 ∧ (I.n = n ∧ I.first = first ∧ I.o = 1 ∧ J.o = 2 ∧ I.N = n * 256) ∧ (I.rt < n ∧ J.rt < n ∧ fstT first I.rt = 0 ∧ upF (fstT first) I.rt 1 J.rt = 0))) (fun x _ => (2 - intOf x).toNat)
  case atStart => exact ⟨0, by omega, rfl, HG5.out, HL5.out, fun _ => HS0.out, (fun h => by omega), (fun h => by omega)⟩
  case round =>
    obtain ⟨k, hk, rfl, hG, hL, h0, h1', h2'⟩ := hrel
    have : k = 0 ∨ k = 1 ∨ k = 2 := by omega
    rcases this with rfl | rfl | rfl
    · have hB := h0 rfl
      have HB := Lib.hid hB
      have HG := Lib.hid hG
      have HL := Lib.hid hL
      clear h0 h1' h2' hB hG hL HS0 HG5 HL5
      have hq0 : (ownC n (fstT first) (fun _ => 0) 0 : Int) < ((n : Nat) : Int) := by rw [ownC_fst n first (by omega), upF_same]; omega
      have hst := snew_ok HB.out.mem HB.out.fr (by omega) (by omega) hq0 (by have := HK.out; omega) (g := 1) (by omega) (by omega) ⟨first, by omega, fstT_at first⟩
      go_wp2_with fail
      refine hst.mono ?_
      rintro _ w6 ⟨tb, bl, k1, rfl, hk1, hTk, hTb, hI, htb, hbl, hne, hF6, hM6, hc6⟩
      have hfk : first ≤ k1 := hF6.fl
      have hlow : ∀ i, i < k1 → 0 < fstT first i := fun i hi => by
        have := hF6.below i hi
        rw [upF_ne _ _ (by omega)] at this; exact this
      have hkk := HK.out
      have hO6 := one_new HB.out.wid HB.out.pla h2 (by omega) (g := 1) (by omega) (by omega) hk1 hfk (fun f _ _ => by show (0 : Nat) ≠ 1; decide) hTb hI htb hbl hne hF6 hM6 hc6 ⟨HB.out.fr.row.lt, HB.out.fr.tm.lt, (by obtain ⟨s', g', _, g2, _⟩ := HB.out.fr.wh; exact g2.lt), HB.out.mem.qlt, HB.out.mem.plt⟩ (by omega) (by have := HZZ.out; have := HSZ.out; omega)
      have hmm6 : RMem w6 rm rq (n * 256) (fun _ => 0) := MemAt.chg HB.out.mm hc6 (by simp; omega) (by simp; omega)
      have hff6 := HB.out.ff.chg hc6 (by simp; omega)
      have hrow6 := HB.out.row.chg hc6 (by simp; omega)
      have hrn := rnew17_ok hmm6 hff6 hk1 hfk hlow hTk hq0 (by omega) (by omega) (g := 1) (by omega) (by omega)
      have HO6 := Lib.hid hO6
      have HG6 := Lib.hid (hc6.to_grows HG.out (by simp; have := HSZ.out; omega))
      have HL6 : Hid (w4.heap.size ≤ wr.heap.size ∧ wr.heap.size ≤ w6.heap.size ∧ wr.heap.size ≤ tb ∧ wr.heap.size ≤ bl ∧ tb < w6.heap.size ∧ bl < w6.heap.size) := Lib.hid ⟨HL.out, hc6.size, htb, hbl, hTb.row.lt, hI.lt⟩
      have HN6 := Lib.hid (⟨hk1, hTk⟩ : k1 < n ∧ fstT first k1 = 0)
      have HW6 := Lib.hid hrow6
      clear hst hq0 hk1 hTk hTb hI htb hbl hne hF6 hM6 hc6 hfk hlow hkk hO6 hmm6 hff6 hrow6 HB HG HL
      go_wp2_with fail
      refine hrn.mono ?_
      rintro _ w7 ⟨u1, rfl, hR7, hF7, hM7, hu, hc7⟩
      have hkk := HK.out
      have hw7 := HW6.out.chg hc7 (by simp; omega)
      have HW7 := Lib.hid hw7
      have lt := hw7.lt
      have d2 : w7.cell? ⟨wb, 2, none⟩ = some (.pointer none) := hw7.cell 2
      have d6 : w7.cell? ⟨wb, 6, none⟩ = some (.pointer none) := hw7.cell 6
      have f2 := hw7.frozen 2
      have f6 := hw7.frozen 6
      have HR7 := Lib.hid hR7
      have HF7 := Lib.hid hF7
      have HM7 := Lib.hid hM7
      have HC7 := Lib.hid hc7
      have HU7 := Lib.hid hu
      clear hrn hkk hw7 hR7 hF7 hM7 hc7 hu HW6
      go_wp2_with fail
      go_region
      all_goals
        obtain ⟨W8, hW8⟩ : ∃ W8, W8 = ((w7.setCell ⟨wb, 2, none⟩ (.pointer (some ⟨tb, 0, none⟩))).setCell ⟨wb, 6, none⟩ (.pointer (some ⟨u1, 0, none⟩))).drew := ⟨_, rfl⟩
        rw [← hW8]
        have hr8 : Row W8 wb #[.pointer (some ⟨pm, 0, none⟩), .pointer (some ⟨fp, 0, none⟩), .pointer (some ⟨tb, 0, none⟩), .pointer none, .pointer (some ⟨rm, 0, none⟩), .pointer (some ⟨rf, 0, none⟩), .pointer (some ⟨u1, 0, none⟩), .pointer none] 65 := by
          rw [hW8]
          have e0 := row_setCell HW7.out (i := 2) (by simp) (.pointer (some ⟨tb, 0, none⟩))
          have e1 := row_setCell e0 (i := 6) (by simp) (.pointer (some ⟨u1, 0, none⟩))
          have e2 := e1.grows ((Grows.refl _).drew)
          simpa using e2
        have hc8 : Chg [wb] w7 W8 := by rw [hW8]; exact (((Chg.refl _ _).setCell (Or.inl (by simp)) _ _).setCell (Or.inl (by simp)) _ _).drew
        have hkk := HK.out
        have hll := HL6.out
        have hs7 := HC7.out.size
        have hs8 := hc8.size
        have hu7 := HU7.out
        have hul := HR7.out.lt
        have hzz := HZZ.out
        have hss := HSZ.out
        have hg7 : Grows W w7 := HC7.out.to_grows HG6.out (by simp; omega)
        have hg8 : Grows W W8 := hc8.to_grows hg7 (by simp; omega)
        have hO8 : One W8 ⟨tb, pm, fp, bl, q, n * 256, 1, k1, bt, bw, n, first⟩ (putB (fun _ => 0) (k1 * 256) (List.replicate 256 0)) (upF (fstT first) k1 1) (upF (fun _ => 0) k1 0) (fun _ => 1) (fun _ => (n : Int)) GS.empty := by
          obtain ⟨s, c, L, low, g1, g2⟩ := HO6.out.ex
          have g3 := g1.apart HC7.out (by show tb ∉ _; simp; omega) (by show bl ∉ _; simp; omega) (by show pm ∉ _; simp; omega) (by show q ∉ _; simp; omega) (by show fp ∉ _ ∧ bt ∉ _ ∧ bw ∉ _; simp; omega) (by simp; omega) (by simp; omega)
          have g4 := g3.apart hc8 (by show tb ∉ _; simp; omega) (by show bl ∉ _; simp; omega) (by show pm ∉ _; simp; omega) (by show q ∉ _; simp; omega) (by show fp ∉ _ ∧ bt ∉ _ ∧ bw ∉ _; simp; omega) (by simp; omega) (by simp; omega)
          exact ⟨⟨s, c, L, low, g4, g2⟩, HO6.out.fs, HO6.out.nb, HO6.out.eb⟩
        have hB8 : B1At W8 wb ⟨tb, pm, fp, bl, q, n * 256, 1, k1, bt, bw, n, first⟩ rm rq rf rfq u1 (putB (fun _ => 0) (k1 * 256) (List.replicate 256 0)) (upF (fstT first) k1 1) (upF (fun _ => 0) k1 0) (fun _ => (n : Int)) :=
          ⟨hO8, MemAt.chg HM7.out hc8 (by simp; omega) (by simp; omega), HF7.out.chg hc8 (by simp; omega), HR7.out.chg hc8 (by simp; omega), hr8⟩
        have HX := Lib.hid (⟨hB8, hg8, (by omega : w4.heap.size ≤ W8.heap.size), (by omega : w4.heap.size ≤ tb), (by omega : w4.heap.size ≤ bl), (by omega : tb < w6.heap.size), (by omega : bl < w6.heap.size), (by omega : w6.heap.size ≤ u1)⟩ : _ ∧ _ ∧ _ ∧ _ ∧ _ ∧ _ ∧ _ ∧ _)
        clear hW8 hr8 hc8 hkk hll hs7 hs8 hu7 hul hzz hss hg7 hg8 hO8 hB8 HO6 HG6 HL6 HW7 HR7 HF7 HM7 HC7 HU7 lt d2 d6 f2 f6
        go_wp2_with fail
        refine ⟨⟨1, by omega, rfl, HX.out.2.1, HX.out.2.2.1, (fun h => by omega), fun _ => ⟨⟨tb, pm, fp, bl, q, n * 256, 1, k1, bt, bw, n, first⟩, u1, HX.out.1, HN6.out.1, HN6.out.2, ⟨rfl, rfl, rfl, rfl, rfl, rfl, rfl, rfl, rfl⟩, w6.heap.size, HX.out.2.2.2.1, HX.out.2.2.2.2.1, HX.out.2.2.2.2.2.1, HX.out.2.2.2.2.2.2.1, HX.out.2.2.2.2.2.2.2⟩, (fun h => by omega)⟩, by simp [intOf]⟩
    · obtain ⟨I, u1, hB, hrt, hrt0, hn, K6, hK6⟩ := h1' rfl
      obtain ⟨n1, n2, n3, n4, n5, n6, n7, n8, n9⟩ := hn
      have HB := Lib.hid hB
      have HG := Lib.hid hG
      have HL := Lib.hid hL
      have HK6 := Lib.hid hK6
      have HN := Lib.hid (⟨n1, n2, n3, n4, n5, n6, n7, n8, n9⟩ : I.n = n ∧ I.first = first ∧ I.o = 1 ∧ I.N = n * 256 ∧ I.pm = pm ∧ I.q = q ∧ I.fp = fp ∧ I.bt = bt ∧ I.bw = bw)
      have HRT := Lib.hid (⟨hrt, hrt0⟩ : I.rt < n ∧ fstT first I.rt = 0)
      clear h0 h1' h2' hB hG hL hK6 n1 n2 n3 n4 n5 n6 n7 n8 n9 hrt hrt0 HS0 HG5 HL5
      have hheld : heldC n (upF (fstT first) I.rt 1) = first + 1 := by
        rw [heldC_new HRT.out.1 HRT.out.2 (by omega), heldC_fst n first (by omega)]
      have hq0 : (ownC I.n (upF (fstT first) I.rt 1) (upF (fun _ => 0) I.rt 0) 0 : Int) < ((n : Nat) : Int) := by
        have := ownC_le_held n (upF (fstT first) I.rt 1) (upF (fun _ => 0) I.rt 0) 0
        rw [HN.out.1]; omega
      have hfree : ∃ i, i < I.n ∧ upF (fstT first) I.rt 1 i = 0 := by rw [HN.out.1]; exact free_of_held (by omega)
      have hzero : ∀ f, upF (fun _ => 0) I.rt 0 f = 0 := fun f => by unfold upF; split <;> rfl
      have hst := snew_two HB.out.i (g := 2) (by omega) (by omega) (by rw [HN.out.2.2.1]; decide) (fun f _ _ => by rw [hzero]; decide) hfree hq0
      rw [HN.out.2.2.2.2.1, HN.out.2.2.2.2.2.2.1] at hst
      go_wp2_with fail
      refine hst.mono ?_
      rintro _ w6 ⟨tb, bl, k2, rfl, hk2, hTk, hfk, htb, hbl, hne, hI6, hJ6, hsep, htbA, hc6, hlow⟩
      obtain ⟨n1, n2, n3, n4, n5, n6, n7, n8, n9⟩ := HN.out
      rw [← n5, ← n7] at hJ6
      have hkk := HK.out
      have hk6 := HK6.out
      have hll := HL.out
      have hul := HB.out.ri.lt
      have hmm6 : RMem w6 rm rq I.N (putB (fun _ => 0) (I.rt * 256) (List.replicate 256 0)) := MemAt.chg HB.out.mm hc6 (by simp; omega) (by simp; omega)
      have hff6 := HB.out.ff.chg hc6 (by simp; omega)
      have hrow6 := HB.out.row.chg hc6 (by simp; omega)
      have hri6 := HB.out.ri.chg hc6 (by simp; omega)
      rw [n4] at hmm6
      rw [n1, n2] at hff6
      rw [n1] at hk2
      rw [n2] at hfk
      rw [n1] at hq0
      have hrn := rnew17_ok hmm6 hff6 hk2 hfk hlow hTk hq0 (by omega) (by omega) (g := 2) (by omega) (by omega)
      have HI6 := Lib.hid hI6
      have HJ6 := Lib.hid hJ6
      have HE6 := Lib.hid hsep
      have HG6 := Lib.hid (hc6.to_grows HG.out (by simp; have := HSZ.out; omega))
      have HL6 : Hid (w4.heap.size ≤ wr.heap.size ∧ wr.heap.size ≤ w6.heap.size ∧ wr.heap.size ≤ tb ∧ wr.heap.size ≤ bl ∧ tb < w6.heap.size ∧ bl < w6.heap.size ∧ u1 < wr.heap.size) := Lib.hid ⟨HL.out, hc6.size, htb, hbl, htbA.row.lt, (by obtain ⟨s', c'', L', low', j1, j2⟩ := hJ6.ex; exact j1.st.map.lt), hul⟩
      have HN6 := Lib.hid (⟨hk2, hTk⟩ : k2 < n ∧ upF (fstT first) I.rt 1 k2 = 0)
      have HW6 := Lib.hid hrow6
      have HR6 := Lib.hid hri6
      clear hst hq0 hk2 hTk htb hbl hne hI6 hJ6 hsep htbA hc6 hfk hlow hkk hk6 hll hul hmm6 hff6 hrow6 hri6 HB HG HL hheld hfree hzero n1 n2 n3 n4 n5 n6 n7 n8 n9
      go_wp2_with fail
      refine hrn.mono ?_
      rintro _ w7 ⟨u2, rfl, hR7, hF7, hM7, hu, hc7⟩
      have hkk := HK.out
      have hll := HL6.out
      have hk6 := HK6.out
      have hw7 := HW6.out.chg hc7 (by simp; omega)
      have hr7 := HR6.out.chg hc7 (by simp; omega)
      have HW7 := Lib.hid hw7
      have lt := hw7.lt
      have d3 : w7.cell? ⟨wb, 3, none⟩ = some (.pointer none) := hw7.cell 3
      have d7 : w7.cell? ⟨wb, 7, none⟩ = some (.pointer none) := hw7.cell 7
      have f3 := hw7.frozen 3
      have f7 := hw7.frozen 7
      have HP7 := Lib.hid hr7
      have HR7 := Lib.hid hR7
      have HF7 := Lib.hid hF7
      have HM7 := Lib.hid hM7
      have HC7 := Lib.hid hc7
      have HU7 := Lib.hid hu
      clear hrn hkk hll hk6 hw7 hr7 hR7 hF7 hM7 hc7 hu HW6 HR6
      go_wp2_with fail
      go_region
      all_goals
        obtain ⟨W8, hW8⟩ : ∃ W8, W8 = ((w7.setCell ⟨wb, 3, none⟩ (.pointer (some ⟨tb, 0, none⟩))).setCell ⟨wb, 7, none⟩ (.pointer (some ⟨u2, 0, none⟩))).drew := ⟨_, rfl⟩
        rw [← hW8]
        have hr8 : Row W8 wb (bRow I.pm I.fp I.tb tb rm rf u1 u2) 65 := by
          rw [hW8]
          have e0 := row_setCell HW7.out (i := 3) (by simp) (.pointer (some ⟨tb, 0, none⟩))
          have e1 := row_setCell e0 (i := 7) (by simp) (.pointer (some ⟨u2, 0, none⟩))
          have e2 := e1.grows ((Grows.refl _).drew)
          simpa using e2
        have hc8 : Chg [wb] w7 W8 := by rw [hW8]; exact (((Chg.refl _ _).setCell (Or.inl (by simp)) _ _).setCell (Or.inl (by simp)) _ _).drew
        have hkk := HK.out
        have hll := HL6.out
        have hk6 := HK6.out
        have hs7 := HC7.out.size
        have hs8 := hc8.size
        have hu7 := HU7.out
        have hul := HR7.out.lt
        have hzz := HZZ.out
        have hss := HSZ.out
        obtain ⟨n1, n2, n3, n4, n5, n6, n7, n8, n9⟩ := HN.out
        have hg7 : Grows W w7 := HC7.out.to_grows HG6.out (by simp; omega)
        have hg8 : Grows W W8 := hc8.to_grows hg7 (by simp; omega)
        have hI8 : One W8 I (putB (putB (fun _ => 0) (I.rt * 256) (List.replicate 256 0)) (k2 * 256) (List.replicate 256 0)) (upF (upF (fstT first) I.rt 1) k2 1) (upF (upF (fun _ => 0) I.rt 0) k2 0) (fun _ => 1) (fun _ => (n : Int)) GS.empty := by
          obtain ⟨s, c, L, low, g1, g2⟩ := HI6.out.ex
          have g3 := g1.apart HC7.out (by simp; omega) (by simp; omega) (by simp; omega) (by simp; omega) (by simp; omega) (by simp; omega) (by simp; omega)
          have g4 := g3.apart hc8 (by simp; omega) (by simp; omega) (by simp; omega) (by simp; omega) (by simp; omega) (by simp; omega) (by simp; omega)
          exact ⟨⟨s, c, L, low, g4, g2⟩, HI6.out.fs, HI6.out.nb, HI6.out.eb⟩
        have hJ8 : One W8 ⟨tb, I.pm, I.fp, bl, I.q, I.N, 2, k2, I.bt, I.bw, I.n, I.first⟩ (putB (putB (fun _ => 0) (I.rt * 256) (List.replicate 256 0)) (k2 * 256) (List.replicate 256 0)) (upF (upF (fstT first) I.rt 1) k2 1) (upF (upF (fun _ => 0) I.rt 0) k2 0) (fun _ => 1) (fun _ => (n : Int)) GS.empty := by
          obtain ⟨s, c, L, low, g1, g2⟩ := HJ6.out.ex
          have g3 := g1.apart HC7.out (by show tb ∉ _; simp; omega) (by show bl ∉ _; simp; omega) (by show I.pm ∉ _; simp; omega) (by show I.q ∉ _; simp; omega) (by show I.fp ∉ _ ∧ I.bt ∉ _ ∧ I.bw ∉ _; simp; omega) (by simp; omega) (by simp; omega)
          have g4 := g3.apart hc8 (by show tb ∉ _; simp; omega) (by show bl ∉ _; simp; omega) (by show I.pm ∉ _; simp; omega) (by show I.q ∉ _; simp; omega) (by show I.fp ∉ _ ∧ I.bt ∉ _ ∧ I.bw ∉ _; simp; omega) (by simp; omega) (by simp; omega)
          exact ⟨⟨s, c, L, low, g4, g2⟩, HJ6.out.fs, HJ6.out.nb, HJ6.out.eb⟩
        have hM8 : RMem W8 rm rq I.N (putB (putB (fun _ => 0) (I.rt * 256) (List.replicate 256 0)) (k2 * 256) (List.replicate 256 0)) := by
          rw [n4]; exact MemAt.chg HM7.out hc8 (by simp; omega) (by simp; omega)
        have hF8 : RfAt W8 rf rfq I.n I.first (upF (upF (fstT first) I.rt 1) k2 1) (upF (upF (fun _ => 0) I.rt 0) k2 0) (fun _ => (n : Int)) := by
          rw [n1, n2]; exact HF7.out.chg hc8 (by simp; omega)
        have hB8 : BgAt W W8 wb I ⟨tb, I.pm, I.fp, bl, I.q, I.N, 2, k2, I.bt, I.bw, I.n, I.first⟩ rm rq rf rfq u1 u2 (putB (putB (fun _ => 0) (I.rt * 256) (List.replicate 256 0)) (k2 * 256) (List.replicate 256 0)) (upF (upF (fstT first) I.rt 1) k2 1) (upF (upF (fun _ => 0) I.rt 0) k2 0) (fun _ => (n : Int)) GS.empty GS.empty :=
          ⟨hI8, hJ8, ⟨rfl, rfl, rfl, rfl, rfl, rfl, rfl, rfl, by show (2 : Nat) ≠ I.o; rw [n3]; decide⟩, HE6.out, hM8, hF8, HP7.out.chg hc8 (by simp; omega), HR7.out.chg hc8 (by simp; omega), hr8, hg8⟩
        obtain ⟨K6, k61, k62, k63, k64, k65⟩ : ∃ K6, w4.heap.size ≤ I.tb ∧ w4.heap.size ≤ I.bl ∧ I.tb < K6 ∧ I.bl < K6 ∧ K6 ≤ u1 := ⟨_, hk6⟩
        have hO8 : Ord W.heap.size wb I.pm I.q rm rq I.fp I.bt I.bw rf rfq I.tb I.bl u1 tb bl u2 := by
          refine ⟨W1.heap.size, w1.heap.size, w2.heap.size, w3.heap.size, w4.heap.size, K6, wr.heap.size, w6.heap.size, ?_⟩
          omega
        have HX := Lib.hid (⟨hB8, hO8, hg8, (by omega : w4.heap.size ≤ W8.heap.size)⟩ : _ ∧ _ ∧ _ ∧ _)
        clear hW8 hr8 hc8 hkk hll hk6 hs7 hs8 hu7 hul hzz hss hg7 hg8 hI8 hJ8 hM8 hF8 hB8 hO8 HI6 HJ6 HE6 HG6 HL6 HW7 HP7 HR7 HF7 HM7 HC7 HU7 lt d3 d7 f3 f7 k61 k62 k63 k64 k65
        go_wp2_with fail
        refine ⟨⟨2, by omega, rfl, HX.out.2.2.1, HX.out.2.2.2, (fun h => by omega), (fun h => by omega), fun _ => ⟨I, ⟨tb, I.pm, I.fp, bl, I.q, I.N, 2, k2, I.bt, I.bw, I.n, I.first⟩, u1, u2, HX.out.1, HX.out.2.1, ⟨n1, n2, n3, rfl, n4⟩, ⟨HRT.out.1, HN6.out.1, HRT.out.2, HN6.out.2⟩⟩⟩, by simp [intOf]⟩
    · obtain ⟨I, J, u1, u2, hB, hO, hn, hrt⟩ := h2' rfl
      have HX := Lib.hid (⟨hB, hO, hn, hrt⟩ : _ ∧ _ ∧ _ ∧ _)
      clear h0 h1' h2' hB hO hn hrt hG hL HS0 HG5 HL5
      go_wp2_with fail
      go_ret2
      exact ⟨wb, rfl, I, J, rm, rq, rf, rfq, u1, u2, I.rt, J.rt, HX.out.1, HX.out.2.1, HX.out.2.2.1, HX.out.2.2.2⟩
end Go.Proofs.YtlchlklbjocliaaDoor

