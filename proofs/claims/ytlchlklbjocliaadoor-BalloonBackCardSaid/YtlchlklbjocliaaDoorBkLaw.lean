/- BalloonBack: the plain law of what is given, taken and settled. -/
import Derived.Test.YtlchlklbjocliaaDoorGb
namespace Go.Proofs.YtlchlklbjocliaaDoor
open Go Go.RowKit
set_option linter.unusedSimpArgs false
set_option linter.unusedVariables false
set_option maxRecDepth 100000
/-- What stands between the calls: only pages below 8; a guest's frame is had twice; all frames are the guest's, the hypervisor's or nobody's. -/
structure BInv (rt : Nat) (T O : Nat → Nat) (G : GS) : Prop where
  only : ∀ p, 8 ≤ p → G.pg p = none
  two : ∀ f, f < 20 → 0 < T f → O f = 3 → T f = 2
  all : ∀ f, f < 20 → 0 < T f → O f = 3 ∨ f < 1 ∨ f = rt ∨ G.lw 0 = some f
theorem BInv.give {rt page : Nat} {T O T' O' B' : Nat → Nat} {G G' : GS} {quo : Nat → Int} {gvn er gv' tk : Int} (h : BInv rt T O G) (hp : page < 8) (hr : GiveR 20 1 3 T O quo G page gvn er gv' B' T' O' G') (hg : gvn = tk + (cntP G 0 : Nat)) : BInv rt T' O' G' ∧ gv' = tk + (cntP G' 0 : Nat) := by
  have h32 : page / 32 = 0 := by omega
  rcases hr with ⟨h1, rfl, rfl, rfl, rfl, rfl⟩ | ⟨h1, h2, rfl, rfl, rfl, rfl, rfl⟩ | ⟨h1, h2, rfl, rfl, hO, rfl, rfl, h3⟩ | ⟨h1, h2, rfl, rfl, k, hk, hfk, hTk, hz, ⟨_, rfl, rfl, rfl⟩ | ⟨hl, t, ht, hft, htk, hTt, rfl, rfl, rfl⟩⟩
  · exact ⟨h, hg⟩
  · exact ⟨h, hg⟩
  · refine ⟨⟨h.only, fun f hf hT hO' => h.two f hf hT (by rw [← hO f hT]; exact hO'), fun f hf hT => by rw [hO f hT]; exact h.all f hf hT⟩, hg⟩
  · have hc := cntP_add (g := ⟨k, true, true, true⟩) h1
    rw [h32] at hc
    refine ⟨⟨fun p hp' => by rw [GS.set_ne _ _ (by omega)]; exact h.only p hp', fun f hf hT hO' => ?_, fun f hf hT => ?_⟩, by omega⟩
    · by_cases e : f = k
      · rw [e, upF_same]
      · rw [upF_ne _ _ e] at hT hO' ⊢; exact h.two f hf hT hO'
    · by_cases e : f = k
      · rw [e, upF_same]; exact Or.inl rfl
      · rw [upF_ne _ _ e] at hT ⊢; exact h.all f hf hT
  · have hc := cntP_add (g := ⟨k, true, true, true⟩) h1
    rw [h32] at hc hl
    refine ⟨⟨fun p hp' => by rw [GS.setLw_pg, GS.set_ne _ _ (by omega)]; exact h.only p hp', fun f hf hT hO' => ?_, fun f hf hT => ?_⟩, by rw [cntP_setLw]; omega⟩
    · by_cases e2 : f = t
      · rw [e2, upF_same] at hO'; omega
      · rw [upF_ne _ _ e2] at hT hO' ⊢
        by_cases e : f = k
        · rw [e, upF_same]
        · rw [upF_ne _ _ e] at hT hO' ⊢; exact h.two f hf hT hO'
    · by_cases e2 : f = t
      · rw [h32, GS.setLw_same, e2]; exact Or.inr (Or.inr (Or.inr rfl))
      · rw [upF_ne _ _ e2] at hT ⊢
        by_cases e : f = k
        · rw [e, upF_same]; exact Or.inl rfl
        · rw [upF_ne _ _ e] at hT ⊢
          rcases h.all f hf hT with h5 | h5 | h5 | h5
          · exact Or.inl h5
          · exact Or.inr (Or.inl h5)
          · exact Or.inr (Or.inr (Or.inl h5))
          · rw [hl] at h5; cases h5
theorem BInv.took {rt page : Nat} {T O T' : Nat → Nat} {G G' : GS} {g : Pg} (h : BInv rt T O G) (hp : page < 8) (hg : G.pg page = some g) (hf : g.fr < 20) (hT : 0 < T g.fr) (hO : O g.fr = 3) (hu : UnR G page g T T' G') :
    BInv rt (upF T' g.fr 0) O G' ∧ T' g.fr = 1 ∧ cntP G 0 = cntP G' 0 + 1 ∧ G'.pg page = none ∧ (∀ p, G.pg p = none → G'.pg p = none) := by
  have h32 : page / 32 = 0 := by omega
  have h2 := h.two _ hf hT hO
  have hc := cntP_del hg
  rw [h32] at hc
  have hpn : ∀ p, G.pg p = none → (G.set page none).pg p = none := fun p hp => by
    by_cases e : p = page
    · rw [e, GS.set_same]
    · rw [GS.set_ne _ _ e]; exact hp
  obtain ⟨t, hl, hTt, hne, ⟨_, rfl, rfl⟩ | ⟨_, rfl, rfl⟩⟩ := hu
  · rw [upF_up]
    refine ⟨⟨fun p hp' => hpn p (h.only p hp'), fun f hf' hT' hO' => ?_, fun f hf' hT' => ?_⟩, by rw [upF_same]; omega, hc, by rw [GS.set_same], hpn⟩
    · by_cases e : f = g.fr
      · rw [e, upF_same] at hT'; omega
      · rw [upF_ne _ _ e] at hT' ⊢; exact h.two f hf' hT' hO'
    · by_cases e : f = g.fr
      · rw [e, upF_same] at hT'; omega
      · rw [upF_ne _ _ e] at hT'; exact h.all f hf' hT'
  · refine ⟨⟨fun p hp' => hpn p (h.only p hp'), fun f hf' hT' hO' => ?_, fun f hf' hT' => ?_⟩, by rw [upF_ne _ _ hne, upF_same]; omega, hc, by rw [GS.setLw_pg, GS.set_same], hpn⟩
    · by_cases e : f = g.fr
      · rw [e, upF_same] at hT'; omega
      · rw [upF_ne _ _ e] at hT' ⊢
        by_cases e2 : f = t
        · rw [e2, upF_same] at hT'; omega
        · rw [upF_ne _ _ e2, upF_ne _ _ e] at hT' ⊢; exact h.two f hf' hT' hO'
    · by_cases e : f = g.fr
      · rw [e, upF_same] at hT'; omega
      · rw [upF_ne _ _ e] at hT'
        by_cases e2 : f = t
        · rw [e2, upF_same] at hT'; omega
        · rw [upF_ne _ _ e2, upF_ne _ _ e] at hT'
          rw [h32] at hl ⊢
          rcases h.all f hf' hT' with h5 | h5 | h5 | h5
          · exact Or.inl h5
          · exact Or.inr (Or.inl h5)
          · exact Or.inr (Or.inr (Or.inl h5))
          · rw [hl] at h5; injection h5 with h5; exact absurd h5.symm e2
/-- How many frames are somebody's where nothing is given. -/
theorem BInv.held {w : World} {I : Ids} {B T O : Nat → Nat} {quo : Nat → Int} {G : GS} (h : BInv I.rt T O G) (ho : One w I B T O (fun _ => 1) quo G) (hn : I.n = 20) (hf : I.first = 1) (h3 : I.o = 3) (hno : ∀ p, G.pg p = none) : heldC 20 T = cn (fun j => decide (j < 1 ∨ j = I.rt)) 20 := by
  obtain ⟨low, hF⟩ := ho.fr
  obtain ⟨s, c, L, low2, g1, g2⟩ := ho.ex
  have hl0 : G.lw 0 = none := (g2.som 0 (by omega)).mpr (cn_none fun i _ => by rw [hno]; rfl)
  have hm : ∀ f, mapsOf G f = 0 := fun f => mapsOf_none fun p hp => by rw [hno]; rfl
  refine cn_congr fun j hj => ?_
  have hb := hF.below j
  have hfl := hF.fl
  rw [hf] at hfl
  have hr := ho.fs.root
  have hall := h.all j hj
  have hown := ho.fs.own j (by rw [hn]; exact hj)
  rw [h3, hm] at hown
  have htwo := h.two j hj
  rw [hl0] at hall
  by_cases hT : 0 < T j
  · rcases hall hT with h5 | h5 | h5 | h5
    · have := hown hT h5; have := htwo hT h5; omega
    · simp [hT, h5]
    · have e : (j < 1 ∨ j = I.rt) := Or.inr h5
      rw [decide_eq_true hT, decide_eq_true e]
    · cases h5
  · have h1 : ¬ j < 1 := fun e => hT (hb (by omega))
    have h2 : ¬ j = I.rt := fun e => hT (by rw [e, hr.2.2.1]; omega)
    simp [hT, h1, h2]
theorem BInv.begin {k : Nat} (hk : fstT 1 k = 0) : BInv k (upF (fstT 1) k 1) (upF (fun _ => 0) k 0) GS.empty := by
  refine ⟨fun _ _ => rfl, fun f hf hT hO => ?_, fun f hf hT => ?_⟩
  · exfalso
    unfold upF at hO
    split at hO
    · omega
    · exact absurd hO (by show ¬ (0 : Nat) = 3; decide)
  · by_cases e : f = k
    · exact Or.inr (Or.inr (Or.inl e))
    · rw [upF_ne _ _ e] at hT
      unfold fstT at hT
      split at hT
      · rename_i h; exact Or.inr (Or.inl h)
      · omega
theorem bmDel_upd {F : Int → Option Bool} {x : Int} (h : F x = none) : bmDel (bmUpd F x true) x = F := by
  funext y; unfold bmDel bmUpd
  split
  · rename_i e; rw [e, h]
  · rfl
end Go.Proofs.YtlchlklbjocliaaDoor
