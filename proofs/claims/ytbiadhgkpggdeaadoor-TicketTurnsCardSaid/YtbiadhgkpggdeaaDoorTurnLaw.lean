/- The plain law of TicketTurns: what becomes of the cores, round by round. -/
import Derived.Test.YtbiadhgkpggdeaaDoorTickLaw
namespace Go.Proofs.YtbiadhgkpggdeaaDoor
set_option linter.unusedSimpArgs false
set_option linter.unusedVariables false
def has (S : Nat → Nat) (c : Nat) : Bool := decide (S c ≠ 1)
def gone (S : Nat → Nat) (c : Nat) : Bool := decide (S c = 0 ∨ S c = 4)
/-- n cores, whose ticket is whose (O), next ticket nx, the one that is served nw, and how many have held it. -/
structure Inv (n : Nat) (O S T : Nat → Nat) (nx nw hd : Nat) : Prop where
  s : ∀ c, c < n → S c ≤ 4
  tick : ∀ c, c < n → S c ≠ 1 → T c < nx ∧ O (T c) = c
  own : ∀ t, t < nx → O t < n ∧ T (O t) = t ∧ S (O t) ≠ 1
  hold : ∀ c, c < n → S c = 3 ∨ S c = 4 → T c = nw
  spin : ∀ c, c < n → S c = 2 → nw ≤ T c
  done : ∀ c, c < n → S c = 0 → T c < nw
  cntx : nx = cnt (has S) n
  held : hd = cnt (gone S) n
  le : nw ≤ nx
theorem Inv.nx_le {n nx nw hd : Nat} {O S T : Nat → Nat} (h : Inv n O S T nx nw hd) : nx ≤ n := by rw [h.cntx]; exact cnt_le
theorem Inv.hd_le {n nx nw hd : Nat} {O S T : Nat → Nat} (h : Inv n O S T nx nw hd) : hd ≤ n := by rw [h.held]; exact cnt_le
theorem Inv.start {n : Nat} {S : Nat → Nat} (O T : Nat → Nat) (h : ∀ c, c < n → S c = 1) : Inv n O S T 0 0 0 := by
  refine ⟨fun c hc => by rw [h c hc]; omega, fun c hc h1 => absurd (h c hc) h1, fun t ht => absurd ht (by omega), fun c hc h1 => ?_, fun c hc h1 => by omega, fun c hc h1 => ?_, ?_, ?_, Nat.le_refl _⟩
  · have := h c hc; omega
  · have := h c hc; omega
  · exact (cnt_none fun c hc => by unfold has; simp [h c hc]).symm
  · exact (cnt_none fun c hc => by unfold gone; simp [h c hc]).symm
theorem Inv.mine {n nx nw hd c d : Nat} {O S T : Nat → Nat} (h : Inv n O S T nx nw hd) (hc : c < n) (hd : d < n) (h1 : S c ≠ 1) (h2 : S d ≠ 1) (ht : T c = T d) : c = d := by
  rw [← (h.tick c hc h1).2, ← (h.tick d hd h2).2, ht]
theorem Inv.take {n nx nw hd c : Nat} {O S T : Nat → Nat} (h : Inv n O S T nx nw hd) (hc : c < n) (h1 : S c = 1) : Inv n (updN O nx c) (updN S c 2) (updN T c nx) (nx + 1) nw hd := by
  have hx : ∀ t, t < nx → O t ≠ c := fun t ht e => by have := (h.own t ht).2.2; rw [e] at this; exact this h1
  refine ⟨fun d hd => ?_, fun d hd h2 => ?_, fun t ht => ?_, fun d hd h2 => ?_, fun d hd h2 => ?_, fun d hd h2 => ?_, ?_, ?_, by have := h.le; omega⟩
  · by_cases e : d = c
    · rw [e, updN_same]; omega
    · rw [updN_ne _ _ e]; exact h.s d hd
  · by_cases e : d = c
    · rw [e, updN_same, updN_same]; exact ⟨by omega, rfl⟩
    · rw [updN_ne _ _ e] at h2 ⊢
      have := h.tick d hd h2
      rw [updN_ne _ _ (show T d ≠ nx by omega)]
      exact ⟨by omega, this.2⟩
  · by_cases e : t = nx
    · subst e
      rw [updN_same, updN_same, updN_same]
      exact ⟨hc, rfl, by omega⟩
    · have ht' : t < nx := by omega
      rw [updN_ne _ _ e, updN_ne _ _ (hx t ht'), updN_ne _ _ (hx t ht')]
      exact h.own t ht'
  · by_cases e : d = c
    · rw [e, updN_same] at h2; omega
    · rw [updN_ne _ _ e] at h2 ⊢; exact h.hold d hd h2
  · by_cases e : d = c
    · rw [e, updN_same]; exact h.le
    · rw [updN_ne _ _ e] at h2 ⊢; exact h.spin d hd h2
  · by_cases e : d = c
    · rw [e, updN_same] at h2; omega
    · rw [updN_ne _ _ e] at h2 ⊢; exact h.done d hd h2
  · rw [cnt_add (p := has S) (q := has (updN S c 2)) hc (fun d _ hn => by unfold has; rw [updN_ne _ _ hn]) (by unfold has; simp [h1]) (by unfold has; rw [updN_same]; rfl), h.cntx]
  · rw [h.held]
    refine cnt_congr fun d _ => ?_
    unfold gone
    by_cases e : d = c
    · rw [e, updN_same, h1]; rfl
    · rw [updN_ne _ _ e]
/-- A core that holds it, or now may. -/
theorem Inv.hold3 {n nx nw hd c : Nat} {O S T : Nat → Nat} (h : Inv n O S T nx nw hd) (hc : c < n) (h1 : S c = 2 ∨ S c = 3) (ht : T c = nw) : Inv n O (updN S c 3) T nx nw hd := by
  refine ⟨fun d hd => ?_, fun d hd h2 => ?_, fun t ht' => ?_, fun d hd h2 => ?_, fun d hd h2 => ?_, fun d hd h2 => ?_, ?_, ?_, h.le⟩
  · by_cases e : d = c
    · rw [e, updN_same]; omega
    · rw [updN_ne _ _ e]; exact h.s d hd
  · by_cases e : d = c
    · rw [e]; exact h.tick c hc (by omega)
    · rw [updN_ne _ _ e] at h2; exact h.tick d hd h2
  · obtain ⟨a, b, g⟩ := h.own t ht'
    refine ⟨a, b, ?_⟩
    by_cases e : O t = c
    · rw [e, updN_same]; omega
    · rw [updN_ne _ _ e]; exact g
  · by_cases e : d = c
    · rw [e]; exact ht
    · rw [updN_ne _ _ e] at h2; exact h.hold d hd h2
  · by_cases e : d = c
    · rw [e, updN_same] at h2; omega
    · rw [updN_ne _ _ e] at h2; exact h.spin d hd h2
  · by_cases e : d = c
    · rw [e, updN_same] at h2; omega
    · rw [updN_ne _ _ e] at h2; exact h.done d hd h2
  · rw [h.cntx]
    refine cnt_congr fun d _ => ?_
    unfold has
    by_cases e : d = c
    · rw [e, updN_same]; simp; omega
    · rw [updN_ne _ _ e]
  · rw [h.held]
    refine cnt_congr fun d _ => ?_
    unfold gone
    by_cases e : d = c
    · rw [e, updN_same]; simp; omega
    · rw [updN_ne _ _ e]
/-- It gives it back at once. -/
theorem Inv.give {n nx nw hd c : Nat} {O S T : Nat → Nat} (h : Inv n O S T nx nw hd) (hc : c < n) (h1 : S c = 3) : Inv n O (updN S c 4) T nx nw (hd + 1) := by
  have ht := h.hold c hc (Or.inl h1)
  refine ⟨fun d hd => ?_, fun d hd h2 => ?_, fun t ht' => ?_, fun d hd h2 => ?_, fun d hd h2 => ?_, fun d hd h2 => ?_, ?_, ?_, h.le⟩
  · by_cases e : d = c
    · rw [e, updN_same]; omega
    · rw [updN_ne _ _ e]; exact h.s d hd
  · by_cases e : d = c
    · rw [e]; exact h.tick c hc (by omega)
    · rw [updN_ne _ _ e] at h2; exact h.tick d hd h2
  · obtain ⟨a, b, g⟩ := h.own t ht'
    refine ⟨a, b, ?_⟩
    by_cases e : O t = c
    · rw [e, updN_same]; omega
    · rw [updN_ne _ _ e]; exact g
  · by_cases e : d = c
    · rw [e]; exact ht
    · rw [updN_ne _ _ e] at h2; exact h.hold d hd h2
  · by_cases e : d = c
    · rw [e, updN_same] at h2; omega
    · rw [updN_ne _ _ e] at h2; exact h.spin d hd h2
  · by_cases e : d = c
    · rw [e, updN_same] at h2; omega
    · rw [updN_ne _ _ e] at h2; exact h.done d hd h2
  · rw [h.cntx]
    refine cnt_congr fun d _ => ?_
    unfold has
    by_cases e : d = c
    · rw [e, updN_same]; simp; omega
    · rw [updN_ne _ _ e]
  · rw [cnt_add (p := gone S) (q := gone (updN S c 4)) hc (fun d _ hn => by unfold gone; rw [updN_ne _ _ hn]) (by unfold gone; simp [h1]) (by unfold gone; rw [updN_same]; rfl), h.held]
/-- It lets go. -/
theorem Inv.free {n nx nw hd c : Nat} {O S T : Nat → Nat} (h : Inv n O S T nx nw hd) (hc : c < n) (h1 : S c = 4) : Inv n O (updN S c 0) T nx (nw + 1) hd := by
  have ht := h.hold c hc (Or.inr h1)
  refine ⟨fun d hd => ?_, fun d hd h2 => ?_, fun t ht' => ?_, fun d hd h2 => ?_, fun d hd h2 => ?_, fun d hd h2 => ?_, ?_, ?_, by have := (h.tick c hc (by omega)).1; omega⟩
  · by_cases e : d = c
    · rw [e, updN_same]; omega
    · rw [updN_ne _ _ e]; exact h.s d hd
  · by_cases e : d = c
    · rw [e]; exact h.tick c hc (by omega)
    · rw [updN_ne _ _ e] at h2; exact h.tick d hd h2
  · obtain ⟨a, b, g⟩ := h.own t ht'
    refine ⟨a, b, ?_⟩
    by_cases e : O t = c
    · rw [e, updN_same]; omega
    · rw [updN_ne _ _ e]; exact g
  · by_cases e : d = c
    · rw [e, updN_same] at h2; omega
    · rw [updN_ne _ _ e] at h2
      have := h.hold d hd h2
      exact absurd (h.mine hd hc (by omega) (by omega) (by omega)) e
  · by_cases e : d = c
    · rw [e, updN_same] at h2; omega
    · rw [updN_ne _ _ e] at h2
      have h3 := h.spin d hd h2
      have : T d ≠ nw := fun h4 => e (h.mine hd hc (by omega) (by omega) (by omega))
      omega
  · by_cases e : d = c
    · rw [e]; omega
    · rw [updN_ne _ _ e] at h2
      have := h.done d hd h2
      omega
  · rw [h.cntx]
    refine cnt_congr fun d _ => ?_
    unfold has
    by_cases e : d = c
    · rw [e, updN_same]; simp; omega
    · rw [updN_ne _ _ e]
  · rw [h.held]
    refine cnt_congr fun d _ => ?_
    unfold gone
    by_cases e : d = c
    · rw [e, updN_same]; simp; omega
    · rw [updN_ne _ _ e]
theorem updN_self {f : Nat → Nat} {i v : Nat} (h : f i = v) : updN f i v = f := by
  funext j; unfold updN; split
  · rename_i hj; rw [hj, h]
  · rfl
/-- How far it has come. -/
def Prog (n : Nat) (O S : Nat → Nat) (nw m : Nat) : Prop := m ≤ 2 * nw ∨ (m ≤ 2 * nw + 1 ∧ nw < n ∧ S (O nw) = 4)
/-- Within a round, before core c; at its beginning w was served, and its owner was in state s. -/
def Mid (n : Nat) (O S : Nat → Nat) (nw w s c : Nat) : Prop := w ≤ nw ∧ (w < n → nw = w → (c ≤ O w → S (O w) = s) ∧ (O w < c → S (O w) = 4 ∧ s ≠ 4))
theorem Mid.start (n : Nat) (O S : Nat → Nat) (nw : Nat) : Mid n O S nw nw (S (O nw)) 0 := ⟨Nat.le_refl _, fun _ _ => ⟨fun _ => rfl, fun h => absurd h (by omega)⟩⟩
theorem Mid.ends {n nw w s m : Nat} {O S S0 : Nat → Nat} (h : Mid n O S nw w s n) (h0 : Prog n O S0 w m) (hs : s = S0 (O w)) (ho : w < n → O w < n) (hm : m + 2 ≤ 2 * n) : Prog n O S nw (m + 1) := by
  obtain ⟨h1, h2⟩ := h
  by_cases e : nw = w
  · subst e
    by_cases hw : nw < n
    · obtain ⟨h3, h4⟩ := (h2 hw rfl).2 (ho hw)
      rcases h0 with h0 | ⟨h0, _, h5⟩
      · by_cases h6 : m + 1 ≤ 2 * nw
        · exact Or.inl h6
        · exact Or.inr ⟨by omega, hw, h3⟩
      · rw [← hs] at h5; exact absurd h5 h4
    · exact Or.inl (by omega)
  · rcases h0 with h0 | ⟨h0, _, _⟩ <;> exact Or.inl (by omega)
/-- A core that changes nothing. -/
theorem Mid.skip {n nw w s c : Nat} {O S T : Nat → Nat} {nx hd : Nat} (h : Mid n O S nw w s c) (hi : Inv n O S T nx nw hd) (hnx : nx = n) (hc : c < n) (hs : S c = 0 ∨ S c = 2 ∧ T c ≠ nw) : Mid n O S nw w s (c + 1) := by
  refine ⟨h.1, fun h1 h2 => ?_⟩
  obtain ⟨h3, h4⟩ := h.2 h1 h2
  have ho := hi.own w (by omega)
  have hne : O w ≠ c := fun e => by
    have ht := ho.2.1
    rw [e] at ht
    rcases hs with hs | ⟨_, hs⟩
    · have := hi.done c hc hs; omega
    · omega
  exact ⟨fun h5 => h3 (by omega), fun h5 => h4 (by omega)⟩
/-- A core that is served, and lets go in the next round. -/
theorem Mid.serve {n nw w s c : Nat} {O S T : Nat → Nat} {nx hd : Nat} (h : Mid n O S nw w s c) (hi : Inv n O S T nx nw hd) (hnx : nx = n) (hc : c < n) (h1 : S c ≠ 1) (h4 : S c ≠ 4) (ht : T c = nw) : Mid n O (updN S c 4) nw w s (c + 1) := by
  refine ⟨h.1, fun h2 h3 => ?_⟩
  have ho := hi.own w (by omega)
  have e : O w = c := hi.mine ho.1 hc ho.2.2 h1 (by rw [ho.2.1]; omega)
  obtain ⟨h5, h6⟩ := h.2 h2 h3
  have hs := h5 (by omega)
  rw [e, updN_same]
  rw [e] at hs
  exact ⟨fun h7 => absurd h7 (by omega), fun _ => ⟨rfl, by rw [← hs]; exact h4⟩⟩
theorem Mid.free {n nw w s c : Nat} {O S S' : Nat → Nat} (h : Mid n O S nw w s c) : Mid n O S' (nw + 1) w s (c + 1) := ⟨by have := h.1; omega, fun _ h3 => absurd h3 (by have := h.1; omega)⟩
/-- When all have been served. -/
theorem Inv.all {n nx nw hd : Nat} {O S T : Nat → Nat} (h : Inv n O S T nx nw hd) (h1 : ∀ c, c < n → S c ≠ 1) (hp : Prog n O S nw (2 * n - 1)) (hn : 1 ≤ n) : hd = n := by
  have hx := h.nx_le
  rw [h.held]
  refine cnt_full fun c hc => ?_
  unfold gone
  have h4 := h.s c hc
  have h1' := h1 c hc
  have hlt := (h.tick c hc h1').1
  by_cases e : S c = 0 ∨ S c = 4
  · simp [e]
  · exfalso
    have ht : nw ≤ T c := by
      by_cases e2 : S c = 2
      · exact h.spin c hc e2
      · have := h.hold c hc (Or.inl (by omega)); omega
    rcases hp with hp | ⟨hp, h5, h6⟩
    · omega
    · have : T c = nw := by omega
      have e3 := (h.tick c hc h1').2
      rw [this] at e3
      rw [e3] at h6
      omega
theorem Inv.nx_full {n nx nw hd : Nat} {O S T : Nat → Nat} (h : Inv n O S T nx nw hd) (h1 : ∀ c, c < n → S c ≠ 1) : nx = n := by
  rw [h.cntx]
  exact cnt_full fun c hc => by unfold has; simp [h1 c hc]
theorem Prog.mono {n nw m m' : Nat} {O S : Nat → Nat} (h : Prog n O S nw m) (hm : m' ≤ m) : Prog n O S nw m' := by
  rcases h with h | ⟨h, h2, h3⟩
  · exact Or.inl (by omega)
  · exact Or.inr ⟨by omega, h2, h3⟩
theorem Prog.zero (n nw : Nat) (O S : Nat → Nat) : Prog n O S nw 0 := Or.inl (by omega)
/-- At the head of a round. -/
structure Head (n : Nat) (O S T : Nat → Nat) (nx nw hd r : Nat) : Prop where
  inv : Inv n O S T nx nw hd
  h : r = 0 ∨ (∀ c, c < n → S c ≠ 1) ∧ Prog n O S nw (min (r - 1) (2 * n - 1))
/-- Within a round. -/
structure Inner (n : Nat) (O S T : Nat → Nat) (nx nw hd r w s c : Nat) : Prop where
  inv : Inv n O S T nx nw hd
  seen : ∀ d, d < c → S d ≠ 1
  late : r = 0 ∨ (∀ d, d < n → S d ≠ 1) ∧ Mid n O S nw w s c ∧ ∃ S0, Prog n O S0 w (min (r - 1) (2 * n - 1)) ∧ s = S0 (O w)
theorem Head.begin {n nx nw hd r : Nat} {O S T : Nat → Nat} (h : Head n O S T nx nw hd r) : Inner n O S T nx nw hd r nw (S (O nw)) 0 :=
  ⟨h.inv, fun d hd => absurd hd (by omega), h.h.imp id fun ⟨a, b⟩ => ⟨a, Mid.start n O S nw, S, b, rfl⟩⟩
theorem Inner.ends {n nx nw hd r w s : Nat} {O S T : Nat → Nat} (h : Inner n O S T nx nw hd r w s n) (hn : 1 ≤ n) : Head n O S T nx nw hd (r + 1) := by
  refine ⟨h.inv, Or.inr ⟨h.seen, ?_⟩⟩
  rcases h.late with h0 | ⟨h1, h2, S0, h3, h4⟩
  · subst h0
    have e : min (0 + 1 - 1) (2 * n - 1) = 0 := by omega
    rw [e]; exact Prog.zero _ _ _ _
  · have hx := h.inv.nx_full h1
    have h5 : Prog n O S0 w (min (r - 1) (2 * n - 2)) := h3.mono (by omega)
    exact (h2.ends h5 h4 (fun hw => (h.inv.own w (by omega)).1) (by omega)).mono (by omega)
theorem Inner.idle {n nx nw hd r w s c v : Nat} {O S T : Nat → Nat} (h : Inner n O S T nx nw hd r w s c) (hc : c < n) (hv : S c = v) (hs : S c = 0 ∨ S c = 2 ∧ T c ≠ nw) : Inner n O (updN S c v) T nx nw hd r w s (c + 1) := by
  rw [updN_self hv]
  refine ⟨h.inv, fun d hd => ?_, h.late.imp id fun ⟨a, b, e⟩ => ⟨a, b.skip h.inv (h.inv.nx_full a) hc hs, e⟩⟩
  by_cases e : d = c
  · rw [e]; omega
  · exact h.seen d (by omega)
theorem Inner.take {n nx nw hd r w s c : Nat} {O S T : Nat → Nat} (h : Inner n O S T nx nw hd r w s c) (hc : c < n) (hv : S c = 1) : Inner n (updN O nx c) (updN S c 2) (updN T c nx) (nx + 1) nw hd r w s (c + 1) := by
  refine ⟨h.inv.take hc hv, fun d hd => ?_, h.late.imp id fun ⟨a, _⟩ => absurd hv (a c hc)⟩
  by_cases e : d = c
  · rw [e, updN_same]; omega
  · rw [updN_ne _ _ e]; exact h.seen d (by omega)
theorem Inner.serve {n nx nw hd r w s c : Nat} {O S T : Nat → Nat} (h : Inner n O S T nx nw hd r w s c) (hc : c < n) (hv : S c = 2 ∨ S c = 3) (ht : T c = nw) : Inner n O (updN (updN S c 3) c 4) T nx nw (hd + 1) r w s (c + 1) := by
  have h1 := (h.inv.hold3 hc hv ht).give hc (updN_same _ _ _)
  rw [updN_updN] at h1 ⊢
  refine ⟨h1, fun d hd => ?_, h.late.imp id fun ⟨a, b, e⟩ => ⟨fun d hd => ?_, b.serve h.inv (h.inv.nx_full a) hc (by omega) (by omega) ht, e⟩⟩
  · by_cases e : d = c
    · rw [e, updN_same]; omega
    · rw [updN_ne _ _ e]; exact h.seen d (by omega)
  · by_cases e : d = c
    · rw [e, updN_same]; omega
    · rw [updN_ne _ _ e]; exact a d hd
theorem Inner.free {n nx nw hd r w s c : Nat} {O S T : Nat → Nat} (h : Inner n O S T nx nw hd r w s c) (hc : c < n) (hv : S c = 4) : Inner n O (updN S c 0) T nx (nw + 1) hd r w s (c + 1) := by
  refine ⟨h.inv.free hc hv, fun d hd => ?_, h.late.imp id fun ⟨a, b, e⟩ => ⟨fun d hd => ?_, b.free, e⟩⟩
  · by_cases e : d = c
    · rw [e, updN_same]; omega
    · rw [updN_ne _ _ e]; exact h.seen d (by omega)
  · by_cases e : d = c
    · rw [e, updN_same]; omega
    · rw [updN_ne _ _ e]; exact a d hd
theorem Head.all {n nx nw hd r : Nat} {O S T : Nat → Nat} (h : Head n O S T nx nw hd r) (hn : 1 ≤ n) (hr : r = 3 * n + 3) : hd = n := by
  rcases h.h with h0 | ⟨h1, h2⟩
  · omega
  · exact h.inv.all h1 (h2.mono (by omega)) hn
/-- The picks, each of a core, after all have asked. -/
structure Pick (n : Nat) (O S T : Nat → Nat) (nx : Nat) : Prop where
  inv : Inv n O S T nx 0 0
  s : ∀ c, c < n → S c = 1 ∨ S c = 2 ∨ S c = 3
theorem Pick.take {n nx c : Nat} {O S T : Nat → Nat} (h : Pick n O S T nx) (hc : c < n) (hv : S c = 1) : Pick n (updN O nx c) (updN S c 2) (updN T c nx) (nx + 1) := by
  refine ⟨h.inv.take hc hv, fun d hd => ?_⟩
  by_cases e : d = c
  · rw [e, updN_same]; omega
  · rw [updN_ne _ _ e]; exact h.s d hd
theorem Pick.hold {n nx c : Nat} {O S T : Nat → Nat} (h : Pick n O S T nx) (hc : c < n) (hv : S c = 2 ∨ S c = 3) (ht : T c = 0) : Pick n O (updN S c 3) T nx := by
  refine ⟨h.inv.hold3 hc hv ht, fun d hd => ?_⟩
  by_cases e : d = c
  · rw [e, updN_same]; omega
  · rw [updN_ne _ _ e]; exact h.s d hd
theorem Pick.idle {n nx c v : Nat} {O S T : Nat → Nat} (h : Pick n O S T nx) (hv : S c = v) : Pick n O (updN S c v) T nx := by rw [updN_self hv]; exact h
end Go.Proofs.YtbiadhgkpggdeaaDoor
