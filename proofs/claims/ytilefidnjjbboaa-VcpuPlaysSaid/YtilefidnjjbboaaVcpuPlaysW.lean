/- The walk of VcpuPlays. -/
import Derived.Test.YtilefidnjjbboaaVcpuPlaysX
import Derived.Test.YtilefidnjjbboaaVcpuPlaysT
import Derived.Deep.DeepCutAuto
import Derived.Deep.CutBlock
namespace Go.Proofs.Ytilefidnjjbboaa
open Go Go.RowKit
set_option linter.unusedSimpArgs false
set_option linter.unusedVariables false
section
variable {H : Type} {enc : TypeId × Value → H}
set_option maxRecDepth 100000 in
set_option maxHeartbeats 8000000 in
theorem vcpuPlays_walk (W : World) (gu : Int) (wf0 : (Lit.int .i64 gu).wf = true) (ix : Int) (wf1 : (Lit.int .i64 ix).wf = true) (A : Option Addr) (n c : Nat) (X : Nat → List Value) (hnc : n ≤ c) (hsz : c * 168 < 140737488355328) (hX : SliceIs2 enc Try.prog W actT A n X) (hA : A = none → c = 0) :
    Calls Try.prog 4 #[.int .i64 gu, .int .i64 ix, .slice A n c] W fun r w' => r = .returned (.bool true) ∧ Grows W w' := by
  have hn : n ≤ 140737488355328 := by omega
  clear hsz wf0 wf1
  go_enter Try.func4, Try.ntmps4
  go_wp2_with fail
  refine (machnew_ok W (N := 2) (F := 2) (by omega) (by omega) (by omega) (by omega)).mono ?_
  rintro _ w1 ⟨pm, me, cb, rfl, hM1, hg1, hpm, hcb⟩
  go_wp2_with fail
  by_cases hok : newOk gu ix
  · as_aux_lemma =>
    have hrn := fun W => rnew_ok W 64 hok
    refine (vnew_ok w1 64 hok.1 hok.2.1 hok.2.2.1 hok.2.2.2).mono ?_
    rintro _ w2 ⟨v0, f0, rfl, hV2, hg2, hv0, hf0⟩
    go_wp2_with fail
    refine (hrn w2).mono ?_
    rintro _ w3 ⟨r0, rfl, hR3, hg3, hr0⟩
    clear hrn
    go_wp2_with fail
    refine (names_ok w3).mono ?_
    rintro _ _ ⟨rfl, hw⟩
    rw [hw]
    clear hw
    obtain ⟨g1, hg1e, hg1a, hg1b⟩ : ∃ g1 : Int, g1 = 1 + gu.tmod 16 ∧ 1 ≤ g1 ∧ g1 ≤ 16 := ⟨_, rfl, by have := Int.tmod_nonneg 16 (show 0 ≤ gu by have := hok.1; omega); omega, by have := Int.tmod_lt_of_pos gu (show (0 : Int) < 16 by omega); omega⟩
    have wr1 : IntKind.i64.wrap (gu.tmod 16) = gu.tmod 16 := by rw [IntKind.wrap_i64]; omega
    have wr2 : IntKind.i64.wrap (1 + gu.tmod 16) = 1 + gu.tmod 16 := by rw [IntKind.wrap_i64]; omega
    go_wp2_with fail
    have hrn := fun W => rnew_ok W 0 (g := 1 + gu.tmod 16) (ix := ix) ⟨by omega, by omega, hok.2.2⟩
    refine (vnew_ok w3 (g := 1 + gu.tmod 16) 0 (by omega) (by omega) hok.2.2.1 hok.2.2.2).mono ?_
    rintro _ w4 ⟨v1, f1, rfl, hV4, hg4, hv1, hf1⟩
    go_wp2_with fail
    refine (hrn w4).mono ?_
    rintro _ w5 ⟨r1, rfl, hR5, hg5, hr1⟩
    clear hrn wr1 wr2
    rw [← hg1e] at hV4 hR5
    go_wp2_with fail
    obtain ⟨W6, hW6⟩ : ∃ W6, W6 = ((w5.alloc (Obj.cells #[.pointer (some ⟨v0, 0, none⟩), .pointer (some ⟨v1, 0, none⟩)] 26)).alloc (Obj.cells #[.pointer (some ⟨r0, 0, none⟩), .pointer (some ⟨r1, 0, none⟩)] 34)).alloc (Obj.cells #[.int .i64 0, .int .i64 0] 40) := ⟨_, rfl⟩
    obtain ⟨bu, hbu⟩ : ∃ b, b = w5.heap.size + 1 + 1 := ⟨_, rfl⟩
    obtain ⟨b17, hb17⟩ : ∃ b, b = w5.heap.size + 1 := ⟨_, rfl⟩
    obtain ⟨b16, hb16⟩ : ∃ b, b = w5.heap.size := ⟨_, rfl⟩
    rw [← hW6, ← hbu, ← hb17, ← hb16]
    have hr16 : Row W6 b16 #[.pointer (some ⟨v0, 0, none⟩), .pointer (some ⟨v1, 0, none⟩)] 26 := by rw [hW6]; exact ((Row.new_at _ _ _ hb16).grows ((Grows.refl _).alloc _)).grows ((Grows.refl _).alloc _)
    have hr17 : Row W6 b17 #[.pointer (some ⟨r0, 0, none⟩), .pointer (some ⟨r1, 0, none⟩)] 34 := by rw [hW6]; exact (Row.new_at _ _ _ (by rw [hb17]; simp)).grows ((Grows.refl _).alloc _)
    have hru : Row W6 bu #[.int .i64 0, .int .i64 0] 40 := by rw [hW6]; exact Row.new_at _ _ _ (by rw [hbu]; simp)
    have hg6 : Grows w5 W6 := by rw [hW6]; exact (((Grows.refl _).alloc _).alloc _).alloc _
    have g46 := hg5.trans hg6
    have g36 := hg4.trans g46
    have g26 := hg3.trans g36
    have l2 := hV2.row.lt
    have l2f := Row.lt (show Row w2 f0 _ 110 from hV2.file)
    have l3 := hR3.row.lt
    have s1 := hg1.size
    have s2 := hg2.size
    have s3 := hg3.size
    have s4 := hg4.size
    have s5 := hg5.size
    have HP := Lib.hid (play_new (bu := bu) (hM1.grows (hg2.trans g26)) 64 0 (hV2.grows g26) (hV4.grows g46) (hR3.grows g36) (hR5.grows hg6) hru (by omega) (by omega) (by omega) (by have := hok.1; omega) (by omega))
    have HS : Hid (Sl W6 (upd (fun _ => v1) 0 v0) (upd (fun _ => r1) 0 r0) b16 b17) := Lib.hid ⟨hr16, hr17⟩
    have HB : Hid (Beyond W cb (upd (fun _ => v1) 0 v0) (upd (fun _ => f1) 0 f0) (upd (fun _ => r1) 0 r0) bu) := Lib.hid ⟨fun k hk => by
      have h1 := hcb k hk
      rcases (show k = 0 ∨ k = 1 by omega) with rfl | rfl
      · show _ ≤ v0 ∧ _ ≤ f0 ∧ _ ≤ r0 ∧ _
        omega
      · show _ ≤ v1 ∧ _ ≤ f1 ∧ _ ≤ r1 ∧ _
        omega, by omega⟩
    have HG := Lib.hid (hg1.trans (hg2.trans g26))
    generalize upd (fun _ => v1) 0 v0 = v at *
    generalize upd (fun _ => f1) 0 f0 = f at *
    generalize upd (fun _ => r1) 0 r0 = r at *
    generalize upd (fun _ => g1) 0 gu = g at *
    clear hM1 hg1 hpm hcb hV2 hg2 hv0 hf0 hR3 hg3 hr0 hg1e hg1a hg1b hV4 hg4 hv1 hf1 hR5 hg5 hr1 hW6 hbu hb17 hb16 hr16 hr17 hru hg6 g46 g36 g26 l2 l2f l3 s1 s2 s3 s4 s5
    go_loopw [19] (fun i wr => ∃ (kk : Nat) (st : Nat → Option (List Value)) (s co : Nat → Int) (R : Nat → List Value) (rf : Nat → Nat → Int) (u : Nat → Int), kk ≤ n ∧ i = .int .i64 kk ∧ PlayAt wr pm me cb v f r bu g ix st s co R rf u ∧ Sl wr v r b16 b17 ∧ Grows W wr) (fun i _ => (n - intOf i).toNat)
    case atStart => exact ⟨0, _, _, _, _, _, _, by omega, rfl, HP.out, HS.out, HG.out⟩
    case round =>
      as_aux_lemma =>
      clear HP HS HG
      obtain ⟨kk, st, s, co, R, rf, u, hk, rfl, hP, hS, hG⟩ := hrel
      by_cases hlt : kk < n
      · as_aux_lemma =>
        obtain ⟨b, o, rfl, hb, K, Wh, C, x, pc, m, d0⟩ := act_at hX hlt
        have d1 : wr.rangeAt b (o + kk * 21) (actL K Wh C (regV x pc m)) := fun j v hv => (hG.cell hb).trans (d0 j v hv)
        clear hX d0
        have HAI := Lib.hid (show (Try.prog.info? 45).map (·.size) = some (actL K Wh C (regV x pc m)).length by kernel_rfl)
        have HAS := Lib.hid (show (Try.prog.info? 45).map (·.size) = some (actL K Wh C (regV x pc m)).toArray.size by kernel_rfl)
        have HAO := Lib.hid (actL_one K Wh C x pc m)
        have HZS := Lib.hid (show zAct.size = (actL K Wh C (regV x pc m)).toArray.size by rfl)
        have HZ := Lib.hid (Row.new wr zAct 45)
        obtain ⟨W8, hW8⟩ : ∃ W8, W8 = (wr.alloc (Obj.cells zAct 45)).setRow wr.heap.size (actL K Wh C (regV x pc m)).toArray := ⟨_, rfl⟩
        have HW8 := Lib.hid hW8.symm
        obtain ⟨b20, hb20⟩ : ∃ b, b = wr.heap.size := ⟨_, rfl⟩
        have HB20 := Lib.hid hb20
        have hg8 : Grows wr W8 := by rw [hW8]; exact grows_setRow ((Grows.refl _).alloc _) (Nat.le_refl _) _
        have hr8 : Row W8 b20 (actL K Wh C (regV x pc m)).toArray 45 := by rw [hW8, hb20]; exact row_setRow HZ.out _
        have HR8 := Lib.hid hr8
        have HP8 := Lib.hid (hP.grows hg8)
        have HS8 := Lib.hid (hS.grows hg8)
        have HG8 := Lib.hid (hG.trans hg8)
        have HD1 := Lib.hid d1
        obtain ⟨e0, e1, _, _, _⟩ := act_cells hr8
        have hwk : ∃ k : Nat, k < 2 ∧ bits .and .i64 Wh 1 = k := by
          have eb : bits .and .i64 Wh 1 = Wh % 2 := and_mask_i64 (n := 1) (by omega)
          exact ⟨(Wh % 2).toNat, by omega, by rw [eb]; omega⟩
        obtain ⟨k, hk2, hwk⟩ := hwk
        clear hP hS hG d1 hb hW8 hb20 hg8 hr8
        go_upto_block 2 with (first
          | (refine wpList_load_mid (by rfl) 45 _ (by rfl) b (o + kk * 21) (by rfl) (actL K Wh C (regV x pc m)) _ HD1.out Try.underlying45 (by rfl) HAI.out ?_)
          | (refine wpList_store_row (by rfl) 45 _ _ (by rfl) wr.heap.size (actL K Wh C (regV x pc m)).toArray (by rfl) (by rfl) 45 _ (by exact HZ.out) HAS.out HZS.out HAO.out ?_; rw [HW8.out, ← HB20.out]))
        clear HAI HAS HAO HZS HZ HW8 HB20 HD1
        go_cut [22, 23] (fun s22 s23 wx => ∃ Wc : World, Wc = wx ∧ Mid2 W wx pm me cb v f r bu g ix b16 b17)
        case first =>
          rename_i J K' hJ hK
          clear e0 e1 hwk
          exact swAll HB HP8 HS8 HG8 HR8 hk2 hJ hK
        case rest =>
          clear HP8 HS8 HG8 HR8 e0 e1 hwk st s co R rf u
          obtain ⟨wz, hwz, hM⟩ := hcut
          rw [← hwz] at hM
          obtain ⟨⟨st, s, co, R, rf, u, hP⟩, hS, hG⟩ := hM
          have HP := Lib.hid hP
          have HS := Lib.hid hS
          have HG := Lib.hid hG
          subst hwz
          clear hP hS hG
          rename_i aK
          refine aK _ _ ?_
          clear aK
          refine tail_ok HP HS (fun x0 x1 x2 x3 x4 x5 x6 x7 x8 x9 x10 x11 x12 x13 x14 x15 x16 x17 x18 x19 x20 x21 x22 x23 x24 x25 x26 x27 x28 x29 x30 x31 x32 x33 x34 x35 x36 x37 x38 x39 x40 x41 x42 x43 x44 x45 x46 x47 x48 x49 x50 x51 x52 x53 x54 x55 x56 x57 x58 x59 x60 x61 x62 x63 x64 x65 x66 x67 x68 x69 x70 x71 x72 x73 x74 x75 x76 x77 x78 x79 x80 x81 x82 x83 w' hgz => ?_)
          have HP' := Lib.hid (HP.out.grows hgz)
          have HS' := Lib.hid (HS.out.grows hgz)
          have HG' := Lib.hid (HG.out.trans hgz)
          clear HP HS HG hgz
          go_wp2_with fail
          go_roundw
          case measure => simp [intOf]; omega
          case rel => exact ⟨kk + 1, _, _, _, _, _, _, by omega, by simp, HP'.out, HS'.out, HG'.out⟩
      · have : kk = n := by omega
        subst this
        have HG := Lib.hid hG
        clear hX hG
        go_wp2_with fail
        go_ret
        exact ⟨rfl, HG.out⟩
  · have hrn := fun W => rnew_bad W 64 hok
    refine (vnew_bad w1 64 hok).mono ?_
    rintro _ _ ⟨rfl, hw⟩
    rw [hw]
    clear hw
    have HG := Lib.hid hg1
    clear hM1 hg1 hpm hcb
    go_wp2_with fail
    refine (hrn w1).mono ?_
    rintro _ _ ⟨rfl, hw⟩
    rw [hw]
    clear hw
    clear hrn
    go_wp2_with fail
    refine (names_ok w1).mono ?_
    rintro _ _ ⟨rfl, hw⟩
    rw [hw]
    clear hw
    go_wp2_with fail
    go_ret
    exact ⟨rfl, HG.out⟩
end
end Go.Proofs.Ytilefidnjjbboaa
