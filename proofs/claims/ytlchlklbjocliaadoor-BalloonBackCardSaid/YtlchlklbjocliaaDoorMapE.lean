/- More of a map from whole numbers to whole numbers: delete, len, an entry that is made and stored. -/
import Derived.Test.YtlchlklbjocliaaDoorMap
set_option linter.unusedVariables false
set_option maxRecDepth 100000
set_option linter.unusedSimpArgs false
namespace Go
open Go.Maps (Keyed int_keyed keyOf_int_mk)
open Go.WideElems (Fit)
open Go.ChangeMaps Go.MapKept
section
variable {P : Program} {k e t : TypeId} {w : World} {b s : Nat} {f : Int → Option Int}
theorem IMap.of_block {w' : World} (h : IMap P k e w b s f) (hb : w'.heap[b]? = w.heap[b]?) : IMap P k e w' b s f := by
  obtain ⟨D, ⟨es, clock, h1, F, h2, h3⟩, r⟩ := h
  exact ⟨D, ⟨es, clock, by rw [hb]; exact h1, F, h2, h3⟩, r⟩
theorem IMap.len (h : IMap P k e w b s f) (ht : P.underlying t = some (.map k e)) (ty : TypeId) : (Builtin.len_ #[t] ty #[.map (some b)]).run P w = .ok (.int .i64 s) w := by
  obtain ⟨D, h, hs, _⟩ := h
  rw [h.len ht ty, hs]
theorem IMap.del (h : IMap P k e w b s f) (hk : P.underlying k = some (.int .i64)) (ht : P.underlying t = some (.map k e)) {K : Int} (wK : wf64 K) (ty : TypeId) :
    ∃ w', (Builtin.delete_ #[t, k] ty #[.map (some b), .int .i64 K]).run P w = .ok (.tuple #[]) w' ∧ IMap P k e w' b (if (f K).isSome then s - 1 else s) (imDel f K) ∧ w.grownBy w' (some b) := by
  obtain ⟨D, h, hs, hf⟩ := h
  obtain ⟨w', hrun, h1, h2⟩ := h.drop (int_keyed hk) ht (keyOf_int_mk hk wK) ty
  have htd := h.tidy (int_keyed hk)
  have hsz := Maps.size_del (k := .int .i64 K) htd
  have h3 := ownsMap_tight h1
  have e1 : Maps.size (D.del (.int .i64 K)) = (if (f K).isSome then s - 1 else s) := by
    rw [(hf K wK).2, hs] at hsz
    by_cases hq : (f K).isSome = true
    · rw [if_pos hq] at hsz ⊢; omega
    · rw [if_neg hq] at hsz ⊢; omega
  rw [e1] at h3
  refine ⟨w', hrun, ⟨_, h3, e1, fun x wx => ?_⟩, h2.grown⟩
  unfold imDel
  by_cases hx : x = K
  · subst hx
    simp only [if_pos]
    exact ⟨fun z => Maps.atKey_del_same z, Maps.has_del_same⟩
  · simp only [if_neg hx]
    obtain ⟨g1, g2⟩ := hf x wx
    exact ⟨fun z => by rw [Maps.atKey_del_other (lit_ne hx)]; exact g1 z, by rw [Maps.has_del_other (lit_ne hx)]; exact g2⟩
/-- 'm[K], .. = V, ..' for a key that is not there yet. -/
theorem IMap.entry (h : IMap P k e w b s f) (hk : P.underlying k = some (.int .i64)) (he : P.underlying e = some (.int .i64)) (ht : P.underlying t = some (.map k e)) (hz : (zeroValue e).run P w = .ok (.int .i64 0) w) (hn : s < maxLen) {K : Int} (wK : wf64 K) (hK : f K = none) :
    ∃ w1 st, (Instr.mapEntry t (.map (some b)) (.int .i64 K)).run P w = .ok (.tuple #[.int .i64 0, .int .i64 st]) w1 ∧ w.grownBy w1 (some b) ∧
      ∀ w2 : World, w2.heap[b]? = w1.heap[b]? → ∀ V, wf64 V → ∃ w3, (Instr.entryStore t (.map (some b)) (.int .i64 st) (.int .i64 V)).run P w2 = .ok () w3 ∧ IMap P k e w3 b (s + 1) (imUpd f K V) ∧ w2.grownBy w3 (some b) := by
  have hI := h
  obtain ⟨D, ⟨es, clock, hb, F, hle, rfl⟩, hs, hf⟩ := h
  have hkey := keyOf_int_mk hk wK
  have Kd := int_keyed (P := P) (k := k) (q := .i64) hk
  have habs : (Instr.findKey k (.int .i64 K) es.toList).run P w = .ok none w ∧ ∀ x ∈ es.toList, x.key ≠ .int .i64 K := by
    rcases Kd.find w hkey es.toList (fun x hx => by obtain ⟨y, hy⟩ := F.reads x hx; exact ⟨_, WideElems.rd_key hy⟩) with hh | ⟨j, e0, h1, h2, h3⟩
    · exact hh
    · exfalso
      have hl := (hf K wK).2
      rw [hK] at hl
      rcases Maps.fit_look false Kd ht hz hb F hkey with ⟨_, hno, _⟩ | ⟨e1, y, hm, hk1, _, _, hat, _⟩
      · exact hno e0 (List.mem_of_getElem? h2) h3
      · rw [Maps.has_true_of_atKey hat] at hl
        cases hl
  obtain ⟨h1, h2⟩ := habs
  refine ⟨setBlock w b (.map (es.push ⟨.int .i64 K, .int .i64 0, clock⟩) (clock + 1)), clock, ?_, ⟨rfl, rfl, rfl, by simp [setBlock], fun i _ hi => heap_setBlock_other hb _ (fun e1 => hi (by rw [e1]))⟩, fun w2 hw2 V wV => ?_⟩
  · simp [Instr.mapEntry, run_underlying ht, MapKept.run_getObj_map hb, Kd.check w false hkey, h1, hz, MapKept.run_setObj_map _ hb, Result.andThen, setBlock, goInt]
  · rw [heap_setBlock_same hb] at hw2
    obtain ⟨w', hrun, hI', _⟩ := hI.update hk he ht hn wK wV
    rw [hK] at hI'
    have hrun2 : (Instr.mapUpdate t (.map (some b)) (.int .i64 K) (.int .i64 V)).run P w = .ok () (setBlock w b (.map (es.push ⟨.int .i64 K, .int .i64 V, clock⟩) (clock + 1))) := by
      simp [Instr.mapUpdate, run_underlying ht, MapKept.run_getObj_map hb, Kd.check w false hkey, h1, MapKept.run_setObj_map _ hb, Result.andThen, setBlock]
    rw [hrun] at hrun2
    obtain rfl : w' = setBlock w b (.map (es.push ⟨.int .i64 K, .int .i64 V, clock⟩) (clock + 1)) := by simpa using hrun2
    refine ⟨setBlock w2 b (.map (es.push ⟨.int .i64 K, .int .i64 V, clock⟩) (clock + 1)), ?_, ?_, ⟨rfl, rfl, rfl, by simp [setBlock], fun i _ hi => heap_setBlock_other hw2 _ (fun e1 => hi (by rw [e1]))⟩⟩
    · have hfi : (es.push ⟨.int .i64 K, .int .i64 0, clock⟩).findIdx? (fun x => (x.born : Int) == (clock : Int)) = some es.size := by
        rw [Array.findIdx?_eq_some_iff_getElem]
        refine ⟨by simp, by simp, fun j hj => ?_⟩
        have hj2 : j < es.size := hj
        rw [Array.getElem_push_lt hj2]
        have := F.stamped.1 es[j] (by simp)
        simp
        omega
      have hmod : (es.push ⟨.int .i64 K, .int .i64 0, clock⟩).modify es.size (fun x => { x with val := .int .i64 V }) = es.push ⟨.int .i64 K, .int .i64 V, clock⟩ := by
        apply Array.ext
        · simp
        · intro i h1 h2
          rw [Array.getElem_modify]
          simp at h1
          by_cases hi : es.size = i
          · subst hi; simp
          · rw [if_neg hi, Array.getElem_push_lt (by omega), Array.getElem_push_lt (by omega)]
      simp [Instr.entryStore, MapKept.run_getObj_map hw2, asInt, asIntOf, Result.andThen, hfi, hmod, MapKept.run_setObj_map _ hw2, setBlock]
    · refine IMap.of_block (by simpa using hI') ?_
      rw [heap_setBlock_same hw2, heap_setBlock_same hb]
end
end Go
