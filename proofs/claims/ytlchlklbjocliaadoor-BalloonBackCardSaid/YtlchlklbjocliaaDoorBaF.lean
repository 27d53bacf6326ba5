/- What stands in a table behind a write: plain facts for the laws of stage and balloon. -/
import Derived.Test.YtlchlklbjocliaaDoorBaC
import Derived.Test.YtlchlklbjocliaaDoorRMem
namespace Go.Proofs.YtlchlklbjocliaaDoor
open Go Go.RowKit
set_option linter.unusedSimpArgs false
set_option linter.unusedVariables false
set_option maxRecDepth 100000
theorem load8 (V : Nat) (h : V < 18446744073709551616) : loadN (leB V 8) = V := by
  unfold loadN
  rw [if_neg (by rw [leB_length]; decide), leN_leB]
  exact Nat.mod_eq_of_lt h
theorem gv_same {N : Nat} {B : Nat → Nat} {a V : Nat} (h8 : a % 8 = 0) (ha : a + 8 ≤ N) (hV : V < 18446744073709551616) : gv N (putB B a (leB V 8)) a = V := by
  unfold gv
  have h0 : numE N a 8 = 0 := numE_zero (W := 8) (by decide) h8 ha
  rw [if_pos h0]
  have := segB_putB B a (leB V 8)
  rw [leB_length] at this
  rw [this]
  exact load8 V hV
theorem leaf_tells {f : Nat} (h : f < 256) (r w x : Bool) (hr : rightR r w x = true) : gok (packN true r w x true false false f) = true ∧ ef (packN true r w x true false false f) = f ∧ eb (packN true r w x true false false f) 1 = r ∧ eb (packN true r w x true false false f) 2 = w ∧ eb (packN true r w x true false false f) 3 = x := by
  have hd : ∀ (f : Fin 256) (r w x : Bool), rightR r w x = true → gok (packN true r w x true false false (f.val : Nat)) = true ∧ ef (packN true r w x true false false (f.val : Nat)) = f.val ∧ eb (packN true r w x true false false (f.val : Nat)) 1 = r ∧ eb (packN true r w x true false false (f.val : Nat)) 2 = w ∧ eb (packN true r w x true false false (f.val : Nat)) 3 = x := by decide +kernel
  exact hd ⟨f, h⟩ r w x hr
theorem none_tells : packN false false false false false false false 0 = 0 ∧ gok (packN false false false false false false false 0) = false := by decide
theorem table_tells {t : Nat} (h : t < 256) : gok (packN true false false false false false false t) = true ∧ ef (packN true false false false false false false t) = t ∧ eb (packN true false false false false false false t) 1 = false ∧ eb (packN true false false false false false false t) 3 = false := by
  have hd : ∀ (t : Fin 256), gok (packN true false false false false false false (t.val : Nat)) = true ∧ ef (packN true false false false false false false (t.val : Nat)) = t.val ∧ eb (packN true false false false false false false (t.val : Nat)) 1 = false ∧ eb (packN true false false false false false false (t.val : Nat)) 3 = false := by decide +kernel
  exact hd ⟨t, h⟩
/-- A page's entry behind a write of its own. -/
theorem rdP_same {N : Nat} {B : Nat → Nat} {L : Int → Option Int} {page t V : Nat} (hl : L ((page / 32 : Nat) : Int) = some (t : Int)) (hin : t * 256 + 256 ≤ N) (hV : V < 18446744073709551616) : rdP N (putB B (t * 256 + 8 * (page % 32)) (leB V 8)) L page = V := by
  unfold rdP
  rw [hl]
  show gv N (putB B (t * 256 + 8 * (page % 32)) (leB V 8)) (t * 256 + 8 * (page % 32)) = V
  exact gv_same (by omega) (by omega) hV
/-- A page's entry behind a write elsewhere. -/
theorem rdP_apart {N : Nat} {B : Nat → Nat} {L : Int → Option Int} {page a : Nat} {bs : List Nat} (h : ∀ t : Nat, L ((page / 32 : Nat) : Int) = some (t : Int) → t * 256 + 8 * (page % 32) + 8 ≤ a ∨ a + bs.length ≤ t * 256 + 8 * (page % 32)) (hL : ∀ k t, L k = some t → 0 ≤ t) : rdP N (putB B a bs) L page = rdP N B L page := by
  unfold rdP
  cases hl : L ((page / 32 : Nat) : Int) with
  | none => rfl
  | some t =>
    obtain ⟨t, rfl⟩ := Int.eq_ofNat_of_zero_le (hL _ _ hl)
    exact gv_other (h t hl)
/-- Two pages of one table have two places. -/
theorem page_apart {p p' t : Nat} (hk : p / 32 = p' / 32) (hn : p ≠ p') : t * 256 + 8 * (p % 32) + 8 ≤ t * 256 + 8 * (p' % 32) ∨ t * 256 + 8 * (p' % 32) + 8 ≤ t * 256 + 8 * (p % 32) := by omega
/-- The map of lower tables with one more. -/
theorem rdP_new {N : Nat} {B : Nat → Nat} {L : Int → Option Int} {page t : Nat} : rdP N B (imUpd L ((page / 32 : Nat) : Int) t) page = gv N B (t * 256 + 8 * (page % 32)) := by
  unfold rdP imUpd
  rw [if_pos rfl]
  rfl
end Go.Proofs.YtlchlklbjocliaaDoor
