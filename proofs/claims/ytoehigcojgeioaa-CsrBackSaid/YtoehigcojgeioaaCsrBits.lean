/- Bits of a status behind Enter and Leave. -/
import Derived.Test.YtoehigcojgeioaaCsrE
import Derived.Test.YtoehigcojgeioaaCsrEg
import Derived.Test.YtoehigcojgeioaaCsrL
namespace Go.Proofs.Ytoehigcojgeioaa
open Go Go.RowKit
set_option linter.unusedSimpArgs false
set_option linter.unusedVariables false
abbrev bv (x : Int) : BitVec 64 := BitVec.ofInt 64 x
theorem bv_nat (x : BitVec 64) : bv (x.toNat : Int) = x := by
  apply BitVec.eq_of_toNat_eq
  simp [bv, BitVec.toNat_ofInt]
theorem wrap_bv (x : BitVec 64) : IntKind.u64.wrap (x.toNat : Int) = (x.toNat : Int) := by
  have := x.isLt
  rw [IntKind.wrap_u64]; omega
theorem bits_and (a b : Int) : bits .and .u64 a b = ((bv a &&& bv b).toNat : Int) := wrap_bv _
theorem bits_or (a b : Int) : bits .or .u64 a b = ((bv a ||| bv b).toNat : Int) := wrap_bv _
theorem bits_andNot (a b : Int) : bits .andNot .u64 a b = ((bv a &&& ~~~ bv b).toNat : Int) := wrap_bv _
theorem bv0 (x : BitVec 64) : ((x.toNat : Int) = 0) ↔ x = 0#64 := by
  constructor
  · intro h
    apply BitVec.eq_of_toNat_eq
    simpa using (by omega : x.toNat = 0)
  · rintro rfl; rfl
theorem or_and (a b c : BitVec 64) : (a ||| b) &&& c = (a &&& c) ||| (b &&& c) := by
  apply BitVec.eq_of_getLsbD_eq
  intro i _
  simp [Bool.and_or_distrib_right]
theorem and_c (x : BitVec 64) (a b : BitVec 64) : (x &&& a) &&& b = x &&& (a &&& b) := BitVec.and_assoc ..
theorem enterS_bv (x m : Int) : ∃ s : BitVec 64, enterS x m = (s.toNat : Int) ∧ s &&& 2#64 = 0#64 ∧ (s &&& 256#64 = 0#64 ↔ m ≠ 1) ∧ (s &&& 32#64 = 0#64 ↔ bv x &&& 2#64 = 0#64) := by
  unfold enterS
  have e2 : bv 2 = 2#64 := rfl
  have e290 : bv 290 = 290#64 := rfl
  have e32 : bv 32 = 32#64 := rfl
  have e256 : bv 256 = 256#64 := rfl
  simp only [bits_and, bits_or, bits_andNot, bv_nat, bv0, e2, e290, e32, e256]
  generalize bv x = X
  by_cases hm : m = 1 <;> by_cases h2 : X &&& 2#64 = 0#64
  all_goals
    simp only [hm, h2, if_true, if_false]
    refine ⟨_, rfl, ?_, ?_, ?_⟩
  all_goals simp [or_and, and_c, h2, hm]
theorem leave_bv (s : BitVec 64) : bits .and .u64 (leaveS (s.toNat : Int)) 2 = if s &&& 32#64 = 0#64 then 0 else 2 := by
  unfold leaveS
  have e2 : bv 2 = 2#64 := rfl
  have e258 : bv 258 = 258#64 := rfl
  have e32 : bv 32 = 32#64 := rfl
  simp only [bits_and, bits_or, bits_andNot, bv_nat, bv0, e2, e258, e32]
  split <;> simp [or_and, and_c, bv_nat, *]
theorem and2_cases (x : Int) : bits .and .u64 x 2 = if bv x &&& 2#64 = 0#64 then 0 else 2 := by
  have e2 : bv 2 = 2#64 := rfl
  rw [bits_and, e2]
  split
  · rename_i h; rw [h]; rfl
  · rename_i h
    have h1 : bv x &&& 2#64 = 2#64 ∨ bv x &&& 2#64 = 0#64 := by
      cases hb : (bv x).getLsbD 1
      · right
        apply BitVec.eq_of_getLsbD_eq
        intro i hi
        by_cases hi1 : i = 1
        · subst hi1; rw [BitVec.getLsbD_and, hb]; rfl
        · have : (2#64).getLsbD i = false := by
            rw [BitVec.getLsbD_ofNat, show (2 : Nat) = 2 ^ 1 from rfl, Nat.testBit_two_pow]; simp; omega
          simp [this]
      · left
        apply BitVec.eq_of_getLsbD_eq
        intro i hi
        by_cases hi1 : i = 1
        · subst hi1; rw [BitVec.getLsbD_and, hb]; rfl
        · have : (2#64).getLsbD i = false := by
            rw [BitVec.getLsbD_ofNat, show (2 : Nat) = 2 ^ 1 from rfl, Nat.testBit_two_pow]; simp; omega
          simp [this]
    rcases h1 with h1 | h1
    · rw [h1]; rfl
    · exact absurd h1 h
/-- Behind Enter and Leave. -/
theorem back_status (x m : Int) (hm : m = 0 ∨ m = 1) : bits .and .u64 (leaveS (enterS x m)) 2 = bits .and .u64 x 2 ∧ leaveM (enterS x m) = m ∧ bits .and .u64 (enterS x m) 2 = 0 := by
  obtain ⟨s, hs, h2, h256, h32⟩ := enterS_bv x m
  rw [hs, leave_bv, and2_cases]
  refine ⟨by simp [h32], ?_, ?_⟩
  · have e256 : bv 256 = 256#64 := rfl
    unfold leaveM
    simp only [bits_and, bv_nat, bv0, e256, h256]
    rcases hm with rfl | rfl <;> rfl
  · have e2 : bv 2 = 2#64 := rfl
    simp only [bits_and, bv_nat, bv0, e2, h2]
end Go.Proofs.Ytoehigcojgeioaa
