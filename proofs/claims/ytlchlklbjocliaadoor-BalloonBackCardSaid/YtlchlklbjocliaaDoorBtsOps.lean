/- copy and clear on a row of bytes that is known by a function. -/
import Derived.Test.YtlchlklbjocliaaDoorChg
import Derived.Laws.CopyOwn
import Derived.Lib.SliceRun
namespace Go
open Go.RowKit
set_option linter.unusedSimpArgs false
set_option linter.unusedVariables false
set_option maxRecDepth 100000
theorem addr_add (b o j : Nat) : (⟨b, o, none⟩ : Addr).add j = ⟨b, o + j, none⟩ := by unfold Addr.add; split <;> simp_all
section
variable {P : Program} {w : World} {ops : Array Oper} {rest : List Oper} {o : Oper} {a : Act} {Q : Exit → Act → World → Prop}
/-- copy, as a run equation whose world is a name. -/
theorem run_copy_bts (dT sT ty elem : TypeId) (hu : P.underlying dT = some (.slice elem)) (hsz : (P.info? elem).map (·.size) = some 1)
    {dp sp : Option Addr} {dLen dCap sLen sCap q n at_ : Nat} {B : Nat → Nat} (h : Bts w q n B) (bs : List Nat) (hn : bs.length = Nat.min sLen dLen) (hb : ∀ x ∈ bs, x < 256)
    (hpos : 0 < bs.length → dp = some ⟨q, at_, none⟩ ∧ ∃ b o, sp = some ⟨b, o, none⟩ ∧ ∀ j, j < bs.length → w.cell? ⟨b, o + j, none⟩ = some (.int .u8 (bs.getD j 0 : Nat)))
    (hfit : at_ + bs.length ≤ n) :
    ∃ w', (Builtin.copy_ #[dT, sT] ty #[.slice dp dLen dCap, .slice sp sLen sCap]).run P w = .ok (goInt bs.length) w' ∧ Bts w' q n (putB B at_ bs) ∧ Chg [q] w w' := by
  by_cases h0 : bs.length = 0
  · obtain rfl : bs = [] := List.eq_nil_of_length_eq_zero h0
    exact ⟨w, run_copy_none (P := P) w dT sT ty elem dp sp dLen dCap sLen sCap hu hsz (by simpa using hn.symm), by rw [putB_nil]; exact h, Chg.refl _ _⟩
  · obtain ⟨rfl, b, of, rfl, hsrc⟩ := hpos (by omega)
    have h' := h
    obtain ⟨⟨cs, t, hr, hl, hc⟩, h256⟩ := h'
    have hrun := run_copy_row (P := P) w dT sT ty elem q at_ dLen dCap ⟨b, of, none⟩ sLen sCap cs t (bs.map fun x => Value.int .u8 (x : Nat)) hu hsz hr (by simpa using hn) (fun j v hj => by
      have hjl : j < bs.length := by
        rcases Nat.lt_or_ge j bs.length with h | h
        · exact h
        · rw [List.getElem?_eq_none (by simpa using h)] at hj; cases hj
      rw [addr_add, hsrc j hjl, ← hj, List.getElem?_map, List.getElem?_eq_getElem hjl]
      simp [List.getD, List.getElem?_eq_getElem hjl]) (by simp; omega) (by simp [Value.oneCell'])
    have h1 := Bts.splice h hfit hb hr
    refine ⟨_, hrun.trans ?_, h1, (Chg.refl _ _).setRow (Or.inl (by simp)) _⟩
    simp
theorem zeros_map (n : Nat) : (List.replicate n 0).map (fun x => Value.int .u8 ((x : Nat) : Int)) = List.replicate n (Value.int .u8 0) := by simp
theorem run_clear_bts (t e ty : TypeId) (ht : P.underlying t = some (.slice e)) (hv : ∀ w, (zeroValue e).run P w = .ok (.int .u8 0) w) {q n at_ k : Nat} {B : Nat → Nat} (h : Bts w q n B) (hk : at_ + k ≤ n) (h0 : 0 < k) (c : Nat) :
    (Builtin.clear_ #[t] ty #[.slice (some ⟨q, at_, none⟩) k c]).run P w = .ok (.tuple #[]) (w.setCells q at_ (List.replicate k (.int .u8 0))) ∧ Bts (w.setCells q at_ (List.replicate k (.int .u8 0))) q n (putB B at_ (List.replicate k 0)) ∧ Chg [q] w (w.setCells q at_ (List.replicate k (.int .u8 0))) := by
  refine ⟨Lib.run_clear_slice w t e ty (.int .u8 0) ht hv rfl rfl q at_ k c h0 (fun j hj => by rw [h.cell (by omega)]; rfl) (fun j hj => h.frozen _), ?_, Chg.setCells (Or.inl (by simp)) _ _ _ (Chg.refl _ _)⟩
  have := Bts.setCells (List.replicate k 0) at_ w B h (by simpa using hk) (by intro x hx; rw [List.eq_of_mem_replicate hx]; decide)
  rwa [zeros_map] at this
theorem run_clear_bts' (t e ty : TypeId) (ht : P.underlying t = some (.slice e)) (hv : ∀ w, (zeroValue e).run P w = .ok (.int .u8 0) w) {q n at_ k : Nat} {B : Nat → Nat} (h : Bts w q n B) (hk : at_ + k ≤ n) (h0 : 0 < k) (c : Nat) :
    ∃ w', (Builtin.clear_ #[t] ty #[.slice (some ⟨q, at_, none⟩) k c]).run P w = .ok (.tuple #[]) w' ∧ Bts w' q n (putB B at_ (List.replicate k 0)) ∧ Chg [q] w w' := ⟨_, run_clear_bts t e ty ht hv h hk h0 c⟩
end
end Go
