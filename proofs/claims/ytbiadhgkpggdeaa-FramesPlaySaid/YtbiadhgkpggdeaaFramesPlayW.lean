/- The walk of FramesPlay. -/
import Derived.Test.YtbiadhgkpggdeaaFrDoes
import Derived.Test.YtbiadhgkpggdeaaRFrN
import Derived.Test.YtbiadhgkpggdeaaFrS
import Derived.Test.YtbiadhgkpggdeaaFrL
import Derived.Test.YtbiadhgkpggdeaaSlice2
import Derived.Deep.DeepCutAuto
import Derived.Deep.CutBlock
import Derived.BigQuiet
namespace Go.Proofs.Ytbiadhgkpggdeaa
open Go Go.RowKit
set_option linter.unusedSimpArgs false
set_option linter.unusedVariables false
section
variable {H : Type} {enc : TypeId × Value → H}
abbrev actT : List TypeId := [3, 3, 3, 3]
theorem act_at {W : World} {A : Option Addr} {n : Nat} {X : Nat → List Value} (hX : SliceIs2 enc Try.prog W actT A n X) {i : Nat} (hi : i < n) :
    ∃ b o, A = some ⟨b, o, none⟩ ∧ b < W.heap.size ∧ ∃ (K F Ow To : Int), wf64 K ∧ wf64 F ∧ wf64 Ow ∧ wf64 To ∧
      W.cell? ⟨b, o + i * 4, none⟩ = some (.int .i64 K) ∧ W.cell? ⟨b, o + i * 4 + 1, none⟩ = some (.int .i64 F) ∧ W.cell? ⟨b, o + i * 4 + 2, none⟩ = some (.int .i64 Ow) ∧ W.cell? ⟨b, o + i * 4 + 3, none⟩ = some (.int .i64 To) := by
  obtain ⟨b, o, hA, hb, hL, hc⟩ := hX i hi
  obtain ⟨c0, cs0, e0, l0, hL⟩ := hL.cons
  obtain ⟨c1, cs1, rfl, l1, hL⟩ := hL.cons
  obtain ⟨c2, cs2, rfl, l2, hL⟩ := hL.cons
  obtain ⟨c3, cs3, rfl, l3, hL⟩ := hL.cons
  obtain ⟨K, rfl, f0⟩ := l0.int Try.underlying3
  obtain ⟨F, rfl, f1⟩ := l1.int Try.underlying3
  obtain ⟨Ow, rfl, f2⟩ := l2.int Try.underlying3
  obtain ⟨To, rfl, f3⟩ := l3.int Try.underlying3
  rw [e0] at hc
  exact ⟨b, o, hA, hb, K, F, Ow, To, f0, f1, f2, f3, hc 0 (by decide), by have := hc 1 (by decide); rwa [← Nat.add_assoc] at this, by have := hc 2 (by decide); rwa [← Nat.add_assoc] at this, by have := hc 3 (by decide); rwa [← Nat.add_assoc] at this⟩
theorem lst_of {w : World} {base : Nat} {v : Value} {l : List Nat} {e : TypeId} {L : Nat} (hL : l.length = L) (h : w.ownsRow base e 1 v L (valsOf l)) :
    ∃ A cap, v = .slice A l.length cap ∧ l.length ≤ cap ∧ cap ≤ maxLen ∧ ∀ k, k < l.length → ∃ g, A = some ⟨g, 0, none⟩ ∧ base ≤ g ∧ g < w.heap.size ∧ w.cell? ⟨g, k, none⟩ = some (.int .i64 (l.getD k 0 : Nat)) := by
  subst hL
  obtain ⟨hlen, ⟨rfl, h0⟩ | ⟨g, cap, cur, rfl, hb, hh, hcap, hmax, hsz, htk⟩⟩ := h
  · exact ⟨none, 0, by rw [h0], by omega, by unfold maxLen; omega, fun k hk => by omega⟩
  · have hr : Row w g cur e := hh
    refine ⟨some ⟨g, 0, none⟩, cap, rfl, hcap, hmax, fun k hk => ⟨g, rfl, hb, hr.lt, ?_⟩⟩
    rw [hr.cell]
    have h1 : (cur.toList.take (l.length * 1))[k]? = (valsOf l)[k]? := by rw [htk]
    rw [List.getElem?_take, if_pos (by omega)] at h1
    rw [← Array.getElem?_toList, h1]
    unfold valsOf
    rw [List.getElem?_map, List.getD_eq_getElem?_getD, List.getElem?_eq_getElem hk]
    rfl
/-- The frames below k that x has. -/
def lW (T O : Nat → Nat) (x : Int) (k : Nat) : List Nat := (List.range k).filter fun j => decide (0 < T j ∧ (O j : Int) = x)
theorem lW_succ (T O : Nat → Nat) (x : Int) (k : Nat) : lW T O x (k + 1) = lW T O x k ++ (if 0 < T k ∧ (O k : Int) = x then [k] else []) := by
  unfold lW
  rw [List.range_succ, List.filter_append]
  congr 1
  by_cases h : 0 < T k ∧ (O k : Int) = x
  · rw [if_pos h]; simp [h]
  · rw [if_neg h]; simp only [List.filter_cons, List.filter_nil]; rw [if_neg (by simpa using h)]
theorem lW_is (T O : Nat → Nat) (o k : Nat) : lW T O (o : Int) k = listC T O o k := by
  unfold lW listC
  refine List.filter_congr fun j hj => ?_
  by_cases h : O j = o
  · simp [h]
  · simp [h]; omega
theorem lW_nil {T O : Nat → Nat} {x : Int} {n : Nat} (h : ∀ j, j < n → 0 < T j → O j < 17) (hx : ¬ isOwn x) : lW T O x n = [] := by
  unfold lW
  rw [List.filter_eq_nil_iff]
  intro j hj
  rw [List.mem_range] at hj
  simp
  intro hT
  have := h j hj hT
  unfold isOwn at hx
  omega
theorem lW_pre (T O : Nat → Nat) (x : Int) : ∀ (d k : Nat), ∃ r, lW T O x (k + d) = lW T O x k ++ r
  | 0, k => ⟨[], by simp⟩
  | d + 1, k => by
    obtain ⟨r, hr⟩ := lW_pre T O x d k
    exact ⟨_, by rw [← Nat.add_assoc, lW_succ, hr, List.append_assoc]⟩
theorem lW_at {T O : Nat → Nat} {x : Int} {n k : Nat} (hk : k < n) (h : 0 < T k ∧ (O k : Int) = x) : (lW T O x k).length < (lW T O x n).length ∧ (lW T O x n).getD (lW T O x k).length 0 = k := by
  obtain ⟨r, hr⟩ := lW_pre T O x (n - (k + 1)) (k + 1)
  rw [show k + 1 + (n - (k + 1)) = n by omega, lW_succ, if_pos h] at hr
  rw [hr]
  refine ⟨by simp, ?_⟩
  rw [List.append_assoc, List.getD_eq_getElem?_getD, List.getElem?_append_right (Nat.le_refl _)]
  simp
theorem lW_le (T O : Nat → Nat) (x : Int) (k : Nat) : (lW T O x k).length ≤ k := by
  unfold lW
  have := List.length_filter_le (fun j => decide (0 < T j ∧ (O j : Int) = x)) (List.range k)
  simpa using this
theorem names_ok (w : World) : Calls Try.prog 18 #[] w fun r w' => r = .returned (.bool true) ∧ w' = w := by
  go_enter Try.func18, Try.ntmps18
  go_wp2_with fail
  go_ret
  exact ⟨rfl, rfl⟩
theorem List_all {w : World} {p bt bw n first low : Nat} {T O : Nat → Nat} {quo : Nat → Int} (h : FrAt w p bt bw n first T O quo low) (x : Int) :
    Calls Try.prog 15 #[.pointer (some ⟨p, 0, none⟩), .int .i64 x] w fun r w' => ∃ A cap, r = .returned (.slice A (lW T O x n).length cap) ∧ (lW T O x n).length ≤ cap ∧ cap ≤ maxLen ∧ (∀ k, k < (lW T O x n).length → ∃ g, A = some ⟨g, 0, none⟩ ∧ g < w'.heap.size ∧ w'.cell? ⟨g, k, none⟩ = some (.int .i64 ((lW T O x n).getD k 0 : Nat))) ∧ Grows w w' := by
  by_cases hx : isOwn x
  · obtain ⟨o, rfl, ho⟩ : ∃ o : Nat, x = o ∧ o < 17 := ⟨x.toNat, by unfold isOwn at hx; omega, by unfold isOwn at hx; omega⟩
    refine (List_any h ho).mono ?_
    rintro _ w' ⟨v, rfl, hown, hg⟩
    rw [lW_is]
    obtain ⟨A, cap, rfl, h1, h2, h3⟩ := lst_of (listC_length T O o n) hown
    exact ⟨A, cap, rfl, h1, h2, fun k hk => by obtain ⟨g, e, _, h4, h5⟩ := h3 k hk; exact ⟨g, e, h4, h5⟩, hg⟩
  · rw [lW_nil h.ob hx]
    refine (List_bad h hx).mono ?_
    rintro _ w' ⟨rfl, hg⟩
    exact ⟨none, 0, rfl, Nat.le_refl _, by unfold maxLen; omega, fun k hk => by simp at hk, by first | exact hg | (subst hg; exact Grows.refl _)⟩
set_option maxRecDepth 100000 in
set_option maxHeartbeats 8000000 in
theorem framesPlay_bad (W : World) (K0 K1 : Int) (hno : ¬ newOk K0 K1) (A : Option Addr) (m c : Nat) (hm : m ≤ 140737488355328) :
    Calls Try.prog 6 #[.int .i64 K0, .int .i64 K1, .slice A m c] W fun r w' => r = .returned (.bool true) ∧ Grows W w' := by
  have h1 := fnew_bad W hno
  have h2 := rnew_bad W hno
  clear hno
  go_enter Try.func6, Try.ntmps6
  go_wp2_with fail
  refine (h1).mono ?_
  rintro _ _ ⟨rfl, hw⟩
  rw [hw]
  clear hw
  go_wp2_with fail
  refine (h2).mono ?_
  rintro _ _ ⟨rfl, hw⟩
  rw [hw]
  clear hw
  go_wp2_with fail
  refine (names_ok W).mono ?_
  rintro _ _ ⟨rfl, hw⟩
  rw [hw]
  clear hw
  go_wp2_with fail
  refine wp_loop_rounds 1 ?_
  rw [rounds_succ]
  by_cases h0 : m = 0
  · subst h0
    go_wp2_with fail
    refine wp_loop_rounds 1 ?_
    rw [rounds_succ]
    go_wp2_with fail
    go_ret
    exact ⟨rfl, Grows.refl _⟩
  · have hpos : 0 < m := by omega
    have hp : (0 : Int) < m := by omega
    clear h0
    go_wp2_with fail
    refine wp_loop_rounds 1 ?_
    rw [rounds_succ]
    go_wp2_with fail
    go_ret
    exact ⟨rfl, Grows.refl _⟩
set_option maxRecDepth 100000 in
set_option maxHeartbeats 8000000 in
theorem framesPlay_ok (W : World) (n first : Nat) (hn1 : 1 ≤ n) (hn2 : n ≤ 65536) (hfn : first ≤ n) (A : Option Addr) (m c : Nat) (X : Nat → List Value) (hmc : m ≤ c) (hsz : c * 32 < 140737488355328) (hX : SliceIs2 enc Try.prog W actT A m X) (hA : A = none → c = 0) :
    Calls Try.prog 6 #[.int .i64 n, .int .i64 first, .slice A m c] W fun r w' => r = .returned (.bool true) ∧ Grows W w' := by
  have hm : m ≤ 140737488355328 := by omega
  clear hsz
  go_enter Try.func6, Try.ntmps6
  go_wp2_with fail
  refine (fnew_ok W hn1 hn2 hfn).mono ?_
  rintro _ w1 ⟨p, bt, bw, rfl, hF1, hg1, hp, hbt, hbw⟩
  go_wp2_with fail
  refine (rnew_ok w1 hn1 hn2 hfn).mono ?_
  rintro _ w2 ⟨rp, rq, rfl, hR2, hg2, hrp, hrq⟩
  have hT2 : Two w2 p bt bw rp rq n first (fstT first) (fun _ => 0) (fun _ => (n : Int)) first := by
    refine ⟨hF1.grows hg2, hR2, ?_⟩
    have h1 := hF1.row.lt
    have h2 := hF1.tm.lt
    obtain ⟨_, _, _, h3, _⟩ := hF1.wh
    have h3 := h3.lt
    simp
    omega
  have HT2 := Lib.hid hT2
  have HG2 := Lib.hid (hg1.trans hg2)
  have HB : Hid (∀ x ∈ [p, bt, bw, rp, rq], W.heap.size ≤ x) := Lib.hid (by have := hg1.size; simp; omega)
  clear hF1 hg1 hp hbt hbw hR2 hg2 hrp hrq hT2
  go_wp2_with fail
  refine (names_ok w2).mono ?_
  rintro _ _ ⟨rfl, hw⟩
  rw [hw]
  clear hw
  go_wp2_with fail
  go_loopw [11] (fun i wr => ∃ (k low : Nat) (T O : Nat → Nat) (Q : Nat → Int), k ≤ m ∧ i = .int .i64 k ∧ Two wr p bt bw rp rq n first T O Q low ∧ Grows W wr) (fun i _ => (m - intOf i).toNat)
  case atStart => exact ⟨0, _, _, _, _, by omega, rfl, HT2.out, HG2.out⟩
  case round =>
    clear HT2 HG2
    obtain ⟨kk, low, T, O, Q, hk, rfl, hF, hG⟩ := hrel
    by_cases hlt : kk < m
    · as_aux_lemma =>
        obtain ⟨b, o, rfl, hb, K, F, Ow, To, f0, f1, f2, f3, d0, d1, d2, d3⟩ := act_at hX hlt
        have c0 := (hG.cell hb).trans d0
        have c1 := (hG.cell hb).trans d1
        have c2 := (hG.cell hb).trans d2
        have c3 := (hG.cell hb).trans d3
        have hb0 : b < wr.heap.size := hG.lt hb
        have HG := Lib.hid hG
        have hlt2 : (kk : Int) < m := by omega
        have hdo : Calls Try.prog 19 #[.pointer (some ⟨p, 0, none⟩), .pointer (some ⟨rp, 0, none⟩), .agg #[.int .i64 K, .int .i64 F, .int .i64 Ow, .int .i64 To]] wr _ := does_any hF F Ow To K
        clear hX f0 f2 f3 hF hG hb0
        go_wp2_with fail
        refine hdo.mono ?_
        rintro _ w5 ⟨rfl, ⟨T5, O5, Q5, low5, hT5⟩, hC5⟩
        have hg5 : Grows W w5 := hC5.to_grows HG.out HB.out
        have HT5 := Lib.hid hT5
        have HG5 := Lib.hid hg5
        have e1 := (hg5.cell hb).trans d1
        have e2 := (hg5.cell hb).trans d2
        clear hdo hC5 hg5 hT5 c0 c1 c2 c3 d0 d1 d2 d3 HG
        obtain ⟨g0, g1⟩ := HT5.out.r.cells
        go_wp2_with fail
        obtain ⟨wo, hwo⟩ : ∃ wo : World, wo = w5 := ⟨_, rfl⟩
        go_loopw [12, 13] (fun s c wi => ∃ i a : Nat, i ≤ n ∧ c = .int .i64 i ∧ s = .int .i64 a ∧ a = sm T5 i ∧ wi = wo) (fun _ c _ => (n - intOf c).toNat)
        case atStart => exact ⟨0, 0, by omega, rfl, rfl, rfl, hwo.symm⟩
        case round =>
          obtain ⟨i, a, hi, rfl, rfl, ha, hwr⟩ := hrel
          subst hwr
          subst hwo
          have HA := Lib.hid ha
          by_cases hin : i < n
          · have ct := HT5.out.r.tm hin
            have htb := HT5.out.r.tb i hin
            have hab : a ≤ 4294967296 := by
              rw [ha]
              have h1 : sm T5 i ≤ i * 65536 := sm_le fun j hj => HT5.out.r.tb j (by omega)
              have h2 : i * 65536 ≤ 65536 * 65536 := Nat.mul_le_mul (by omega) (Nat.le_refl _)
              omega
            have HST : Hid (a + T5 i = sm T5 (i + 1)) := by show _ = _; rw [ha]; rfl
            generalize T5 i = ti at *
            clear ha e1 e2
            go_wp2_with fail
            go_roundw
            case measure => simp [intOf]; omega
            case rel => exact ⟨i + 1, a + ti, by omega, by simp, by simp, HST.out, by trivial⟩
          · have hni : n = i := by omega
            subst hni
            have hsum := Sum_any HT5.out.f
            rw [← ha] at hsum
            clear ha g1
            go_wp2_with fail
            refine hsum.mono ?_
            rintro _ w6 ⟨rfl, hg6⟩
            have HT6 := Lib.hid (HT5.out.grows hg6)
            have HG6 := Lib.hid (HG5.out.trans hg6)
            have e1 := (hg6.cell (HG5.out.lt hb)).trans e1
            have e2 := (hg6.cell (HG5.out.lt hb)).trans e2
            have hcnt := Count_any HT6.out.f Ow
            have hrc := fun w' (hg : Grows w6 w') => RCount_any (HT6.out.r.grows hg) Ow
            generalize ownI n T5 O5 Ow = ov at hcnt hrc
            generalize (n : Int) - (heldC n T5 : Nat) = fv at hcnt hrc
            clear hsum hg6 HT5 HG5 HA g0
            go_wp2_with fail
            refine hcnt.mono ?_
            rintro _ w7 ⟨rfl, hg7⟩
            have hrc := hrc _ hg7
            have HT7 := Lib.hid (HT6.out.grows hg7)
            have e1 := (hg7.cell (HG6.out.lt hb)).trans e1
            have e2 := (hg7.cell (HG6.out.lt hb)).trans e2
            have HG7 := Lib.hid (HG6.out.trans hg7)
            clear hcnt hg7 HT6 HG6
            go_wp2_with fail
            refine hrc.mono ?_
            rintro _ w8 ⟨rfl, hg8⟩
            have HT8 := Lib.hid (HT7.out.grows hg8)
            have e1 := (hg8.cell (HG7.out.lt hb)).trans e1
            have HG8 := Lib.hid (HG7.out.trans hg8)
            clear hrc hg8 HT7 HG7 e2
            by_cases hsm : 0 ≤ F ∧ F < n ∧ 0 < T5 F.toNat
            · obtain ⟨j, rfl⟩ : ∃ j : Nat, F = j := ⟨F.toNat, by omega⟩
              rw [Int.toNat_natCast] at hsm
              have hj : j < n := by omega
              have hT := hsm.2.2
              have how := Owner_some HT8.out.f hj hT
              clear hsm f1
              go_wp2_with fail
              refine how.mono ?_
              rintro _ w9 ⟨rfl, hg9⟩
              have HT9 := Lib.hid (HT8.out.grows hg9)
              have e1 := (hg9.cell (HG8.out.lt hb)).trans e1
              have HG9 := Lib.hid (HG8.out.trans hg9)
              have hT1 : (0 : Int) < T5 j := by omega
              have ct := HT9.out.r.tm hj
              have co := HT9.out.r.ow hj hT
              clear how hg9 HT8 HG8
              have HCT := Lib.hid ct
              have HCO := Lib.hid co
              have hTd : decide (0 < T5 j) = true := decide_eq_true hT
              generalize T5 j = tj at ct co hT1 HCT HCO hTd
              generalize O5 j = oj at ct co HCT HCO
              clear hT
              have l1 := HT9.out.r.lt.1
              have l2 := HT9.out.r.lt.2
              have l3 := HG9.out.lt hb
              have g0 := HT9.out.r.cells.1
              go_wp2_with fail
              refine wp_region_grow (by kernel_rfl) (by kernel_rfl) ?_
              repeat (go_big_quiet_step ((fail)))
              refine wpQuiet_nil ?_
              intro _ hw'
              obtain ⟨gg, rfl⟩ := hw'
              obtain ⟨w10, hw10⟩ : ∃ w10, w10 = w9.grow gg := ⟨_, rfl⟩
              have hg10 : Grows w9 w10 := by rw [hw10]; exact Grows.of _ _
              rw [← hw10]
              clear hw10
              have HT10 := Lib.hid (HT9.out.grows hg10)
              have HG10 := Lib.hid (HG9.out.trans hg10)
              have e1 := (hg10.cell l3).trans e1
              have g0 := HT10.out.r.cells.1
              have ct := (hg10.cell l2).trans HCT.out
              have co := (hg10.cell l2).trans HCO.out
              have l1 := HT10.out.r.lt.1
              have l2 := HT10.out.r.lt.2
              have l3 := HG10.out.lt hb
              clear hg10 HT9 HG9
              go_wp2_with fail
              refine wp_region_grow (by kernel_rfl) (by kernel_rfl) ?_
              repeat (go_big_quiet_step ((fail)))
              refine wpQuiet_nil ?_
              intro _ hw'
              obtain ⟨gh, rfl⟩ := hw'
              have HT11 := Lib.hid (HT10.out.grows (Grows.of w10 gh))
              have HG11 := Lib.hid (HG10.out.trans (Grows.of w10 gh))
              go_wp2_with fail
              go_roundw
              case measure => simp [intOf]; omega
              case rel => exact ⟨kk + 1, _, _, _, _, by omega, by simp, HT11.out, HG11.out⟩
            · have htm : timesOf n T5 F = 0 := by
                unfold timesOf
                by_cases h : 0 ≤ F ∧ F < n
                · rw [if_pos h]; omega
                · rw [if_neg h]
              have how := Owner_none HT8.out.f f1 htm
              clear htm
              go_wp2_with fail
              refine how.mono ?_
              rintro _ w9 ⟨rfl, hg9⟩
              have HT9 := Lib.hid (HT8.out.grows hg9)
              have e1 := (hg9.cell (HG8.out.lt hb)).trans e1
              have HG9 := Lib.hid (HG8.out.trans hg9)
              clear how hg9 HT8 HG8
              by_cases hF0 : 0 ≤ F
              · by_cases hFn : F < n
                · obtain ⟨j, rfl⟩ : ∃ j : Nat, F = j := ⟨F.toNat, by omega⟩
                  rw [Int.toNat_natCast] at hsm
                  have hj : j < n := by omega
                  have hT0 : T5 j = 0 := by omega
                  have ct := HT9.out.r.tm hj
                  rw [hT0] at ct
                  have HCT := Lib.hid ct
                  clear hsm f1 hT0
                  have l1 := HT9.out.r.lt.1
                  have l2 := HT9.out.r.lt.2
                  have l3 := HG9.out.lt hb
                  have g0 := HT9.out.r.cells.1
                  go_wp2_with fail
                  refine wp_region_grow (by kernel_rfl) (by kernel_rfl) ?_
                  repeat (go_big_quiet_step ((fail)))
                  refine wpQuiet_nil ?_
                  intro _ hw'
                  obtain ⟨gg, rfl⟩ := hw'
                  obtain ⟨w10, hw10⟩ : ∃ w10, w10 = w9.grow gg := ⟨_, rfl⟩
                  have hg10 : Grows w9 w10 := by rw [hw10]; exact Grows.of _ _
                  rw [← hw10]
                  clear hw10
                  have HT10 := Lib.hid (HT9.out.grows hg10)
                  have HG10 := Lib.hid (HG9.out.trans hg10)
                  have e1 := (hg10.cell l3).trans e1
                  have g0 := HT10.out.r.cells.1
                  have ct := (hg10.cell l2).trans HCT.out
                  have l1 := HT10.out.r.lt.1
                  have l2 := HT10.out.r.lt.2
                  have l3 := HG10.out.lt hb
                  clear hg10 HT9 HG9
                  go_wp2_with fail
                  refine wp_region_grow (by kernel_rfl) (by kernel_rfl) ?_
                  repeat (go_big_quiet_step ((fail)))
                  refine wpQuiet_nil ?_
                  intro _ hw'
                  obtain ⟨gh, rfl⟩ := hw'
                  have HT11 := Lib.hid (HT10.out.grows (Grows.of w10 gh))
                  have HG11 := Lib.hid (HG10.out.trans (Grows.of w10 gh))
                  go_wp2_with fail
                  go_roundw
                  case measure => simp [intOf]; omega
                  case rel => exact ⟨kk + 1, _, _, _, _, by omega, by simp, HT11.out, HG11.out⟩
                · have hd : decide (F < (n : Int)) = false := decide_eq_false hFn
                  clear hsm f1
                  have l1 := HT9.out.r.lt.1
                  have l2 := HT9.out.r.lt.2
                  have l3 := HG9.out.lt hb
                  have g0 := HT9.out.r.cells.1
                  go_wp2_with fail
                  refine wp_region_grow (by kernel_rfl) (by kernel_rfl) ?_
                  repeat (go_big_quiet_step ((fail)))
                  refine wpQuiet_nil ?_
                  intro _ hw'
                  obtain ⟨gg, rfl⟩ := hw'
                  obtain ⟨w10, hw10⟩ : ∃ w10, w10 = w9.grow gg := ⟨_, rfl⟩
                  have hg10 : Grows w9 w10 := by rw [hw10]; exact Grows.of _ _
                  rw [← hw10]
                  clear hw10
                  have HT10 := Lib.hid (HT9.out.grows hg10)
                  have HG10 := Lib.hid (HG9.out.trans hg10)
                  have e1 := (hg10.cell l3).trans e1
                  have g0 := HT10.out.r.cells.1
                  have l1 := HT10.out.r.lt.1
                  have l2 := HT10.out.r.lt.2
                  have l3 := HG10.out.lt hb
                  clear hg10 HT9 HG9
                  go_wp2_with fail
                  refine wp_region_grow (by kernel_rfl) (by kernel_rfl) ?_
                  repeat (go_big_quiet_step ((fail)))
                  refine wpQuiet_nil ?_
                  intro _ hw'
                  obtain ⟨gh, rfl⟩ := hw'
                  have HT11 := Lib.hid (HT10.out.grows (Grows.of w10 gh))
                  have HG11 := Lib.hid (HG10.out.trans (Grows.of w10 gh))
                  go_wp2_with fail
                  go_roundw
                  case measure => simp [intOf]; omega
                  case rel => exact ⟨kk + 1, _, _, _, _, by omega, by simp, HT11.out, HG11.out⟩
              · have hd : decide (0 ≤ F) = false := decide_eq_false hF0
                clear hsm f1
                have l1 := HT9.out.r.lt.1
                have l2 := HT9.out.r.lt.2
                have l3 := HG9.out.lt hb
                have g0 := HT9.out.r.cells.1
                go_wp2_with fail
                refine wp_region_grow (by kernel_rfl) (by kernel_rfl) ?_
                repeat (go_big_quiet_step ((fail)))
                refine wpQuiet_nil ?_
                intro _ hw'
                obtain ⟨gg, rfl⟩ := hw'
                obtain ⟨w10, hw10⟩ : ∃ w10, w10 = w9.grow gg := ⟨_, rfl⟩
                have hg10 : Grows w9 w10 := by rw [hw10]; exact Grows.of _ _
                rw [← hw10]
                clear hw10
                have HT10 := Lib.hid (HT9.out.grows hg10)
                have HG10 := Lib.hid (HG9.out.trans hg10)
                have e1 := (hg10.cell l3).trans e1
                have g0 := HT10.out.r.cells.1
                have l1 := HT10.out.r.lt.1
                have l2 := HT10.out.r.lt.2
                have l3 := HG10.out.lt hb
                clear hg10 HT9 HG9
                go_wp2_with fail
                refine wp_region_grow (by kernel_rfl) (by kernel_rfl) ?_
                repeat (go_big_quiet_step ((fail)))
                refine wpQuiet_nil ?_
                intro _ hw'
                obtain ⟨gh, rfl⟩ := hw'
                have HT11 := Lib.hid (HT10.out.grows (Grows.of w10 gh))
                have HG11 := Lib.hid (HG10.out.trans (Grows.of w10 gh))
                go_wp2_with fail
                go_roundw
                case measure => simp [intOf]; omega
                case rel => exact ⟨kk + 1, _, _, _, _, by omega, by simp, HT11.out, HG11.out⟩
    · have : m = kk := by omega
      subst this
      as_aux_lemma =>
        have HT := Lib.hid hF
        have HG := Lib.hid hG
        clear hF hG hX
        go_wp2_with fail
        go_loopw [22] (fun u wr => ∃ k : Nat, k ≤ 19 ∧ u = .int .i64 ((k : Int) - 1) ∧ Two wr p bt bw rp rq n first T O Q low ∧ Grows W wr) (fun u _ => (18 - intOf u).toNat)
        case atStart => exact ⟨0, by omega, rfl, HT.out, HG.out⟩
        case round =>
          clear HT HG
          obtain ⟨k, hk, rfl, hT, hG⟩ := hrel
          obtain ⟨x, hx⟩ : ∃ x : Int, x = (k : Int) - 1 := ⟨_, rfl⟩
          rw [← hx]
          by_cases hk19 : k < 19
          · have hx1 : -1 ≤ x ∧ x ≤ 17 := by omega
            have hlist := List_all hT.f x
            have HT := Lib.hid hT
            have HG := Lib.hid hG
            have HX := Lib.hid hx
            clear hT hG hx
            go_wp2_with fail
            refine hlist.mono ?_
            rintro _ w2 ⟨A2, cap2, rfl, hc1, hc2, hat, hg2⟩
            have HT2 := Lib.hid (HT.out.grows hg2)
            have HG2 := Lib.hid (HG.out.trans hg2)
            have HAT := Lib.hid hat
            obtain ⟨g0, _⟩ := HT2.out.r.cells
            have hLn := lW_le T O x n
            obtain ⟨L, hL⟩ : ∃ L, L = (lW T O x n).length := ⟨_, rfl⟩
            rw [← hL] at hc1 hLn
            have HL := Lib.hid hL
            rw [← hL]
            clear hlist hg2 hat HT HG hL
            go_wp2_with fail
            obtain ⟨wo, hwo⟩ : ∃ wo : World, wo = w2 := ⟨_, rfl⟩
            go_loopw [24, 25] (fun q c wi => ∃ i l : Nat, i ≤ n ∧ c = .int .i64 i ∧ q = .int .i64 l ∧ l = (lW T O x i).length ∧ wi = wo) (fun _ c _ => (n - intOf c).toNat)
            case atStart => exact ⟨0, 0, by omega, rfl, rfl, rfl, hwo.symm⟩
            case round =>
              obtain ⟨i, l, hi, rfl, rfl, hl, hwr⟩ := hrel
              subst hwr
              subst hwo
              have hli := lW_le T O x i
              rw [← hl] at hli
              by_cases hin : i < n
              · have hin2 : (i : Int) < n := by omega
                have ct := HT2.out.r.tm hin
                have hsc := lW_succ T O x i
                by_cases hT0 : 0 < T i
                · have co := HT2.out.r.ow hin hT0
                  have hTd : decide (0 < T i) = true := decide_eq_true hT0
                  by_cases hO : (O i : Int) = x
                  · rw [if_pos ⟨hT0, hO⟩] at hsc
                    obtain ⟨hp1, hp2⟩ := lW_at hin ⟨hT0, hO⟩
                    rw [← hl, ← HL.out] at hp1
                    rw [← hl] at hp2
                    obtain ⟨g, rfl, hgl, hgc⟩ := HAT.out l (by rw [← HL.out]; exact hp1)
                    rw [hp2] at hgc
                    have hlL : (l : Int) < L := by omega
                    have HS : Hid (l + 1 = (lW T O x (i + 1)).length) := Lib.hid (by rw [hsc, List.length_append, ← hl]; rfl)
                    rw [hO] at co
                    generalize T i = ti at ct co hTd
                    clear hsc hl hp2 hT0 hO
                    go_wp2_with fail
                    go_roundw
                    case measure => simp [intOf]; omega
                    case rel => exact ⟨i + 1, l + 1, by omega, by simp, by simp, HS.out, by trivial⟩
                  · rw [if_neg (fun h => hO h.2), List.append_nil] at hsc
                    have hOd : ((O i : Int) == x) = false := by simp; exact hO
                    have HS : Hid (l = (lW T O x (i + 1)).length) := Lib.hid (by rw [hsc, ← hl])
                    generalize T i = ti at ct co hTd
                    generalize O i = oi at co hOd
                    clear hsc hl hT0 hO
                    go_wp2_with fail
                    go_roundw
                    case measure => simp [intOf]; omega
                    case rel => exact ⟨i + 1, l, by omega, by simp, by simp, HS.out, by trivial⟩
                · rw [if_neg (fun h => hT0 h.1), List.append_nil] at hsc
                  have HS : Hid (l = (lW T O x (i + 1)).length) := Lib.hid (by rw [hsc, ← hl])
                  have h0 : T i = 0 := by omega
                  rw [h0] at ct
                  clear hsc hl hT0 h0
                  go_wp2_with fail
                  go_roundw
                  case measure => simp [intOf]; omega
                  case rel => exact ⟨i + 1, l, by omega, by simp, by simp, HS.out, by trivial⟩
              · have hni : n = i := by omega
                subst hni
                have hll : l = L := hl.trans HL.out.symm
                have HX3 := Lib.hid hl
                clear hl
                subst hll
                go_wp2_with fail
                go_roundw
                case measure => simp [intOf]; omega
                case rel => exact ⟨k + 1, by omega, by simp; have := HX.out; omega, HT2.out, HG2.out⟩
          · have hx1 : x = 18 := by omega
            have HG := Lib.hid hG
            clear hx hT hG
            subst hx1
            go_wp2_with fail
            go_ret
            exact ⟨rfl, HG.out⟩
theorem framesPlay_walk (W : World) (K0 : Int) (_ : (Lit.int .i64 K0).wf = true) (K1 : Int) (_ : (Lit.int .i64 K1).wf = true) (A : Option Addr) (m c : Nat) (X : Nat → List Value) (hmc : m ≤ c) (hsz : c * 32 < 140737488355328) (hX : SliceIs2 enc Try.prog W actT A m X) (hA : A = none → c = 0) :
    Calls Try.prog 6 #[.int .i64 K0, .int .i64 K1, .slice A m c] W fun r w' => r = .returned (.bool true) ∧ Grows W w' := by
  by_cases h : newOk K0 K1
  · obtain ⟨h1, h2, h3, h4⟩ := h
    obtain ⟨n, rfl⟩ : ∃ n : Nat, K0 = n := ⟨K0.toNat, by omega⟩
    obtain ⟨f, rfl⟩ : ∃ f : Nat, K1 = f := ⟨K1.toNat, by omega⟩
    exact framesPlay_ok W n f (by omega) (by omega) (by omega) A m c X hmc hsz hX hA
  · exact framesPlay_bad W K0 K1 h A m c (by omega)
end
end Go.Proofs.Ytbiadhgkpggdeaa
