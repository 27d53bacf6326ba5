/- The walk of VcpuPlays: what is told behind each act. -/
import Derived.Test.YtilefidnjjbboaaVcpuPlaysA
namespace Go.Proofs.Ytilefidnjjbboaa
open Go Go.RowKit
set_option linter.unusedSimpArgs false
set_option linter.unusedVariables false
/-- The code from a region on. -/
def frm (n : Nat) : Code → Option Code
  | .seq a b => match a with
    | .region m _ _ => if m = n then some (.seq a b) else frm n b
    | _ => match frm n a with
      | some c => some c
      | none => frm n b
  | .cond _ a b => match frm n a with
    | some c => some c
    | none => frm n b
  | .block _ b => frm n b
  | .loop b => frm n b
  | _ => none
noncomputable def tl : Code := match Try.f4.body with
  | some b => match frm 50 b with
    | some c => c
    | none => .skip
  | none => .skip
set_option maxRecDepth 100000 in
set_option maxHeartbeats 8000000 in
theorem tail_ok {t0 t1 t2 t3 t4 t5 t6 t8 t9 t10 t11 t12 t13 t14 t15 t18 t19 t20 t21 t22 t23 t24 t25 t26 t27 t28 t29 t30 t31 t32 t33 t34 t35 t36 t37 t38 t39 t40 t41 t42 t43 t44 t45 t46 t47 t48 t49 t50 t51 t52 t53 t54 t55 t56 t57 t58 t59 t60 t61 t62 t63 t64 t65 t66 t67 t68 t69 t70 t71 t72 t73 t74 t75 t76 t77 t78 t79 t80 t81 t82 t83 t84 t85 t86 t87 t88 t89 t90 t91 t92 t93 t94 t95 t96 t97 t98 t99 t100 t101 t102 t103 t104 t105 t106 t107 t108 t109 t110 t111 t112 t113 t114 t115 t116 t117 t118 t119 t120 t121 t122 t123 t124 t125 t126 t127 t128 t129 t130 t131 t132 t133 t134 t135 t136 t137 t138 t139 t140 t141 t142 t143 t144 t145 t146 t147 t148 t149 t150 t151 t152 t153 t154 t155 t156 t157 t158 t159 t160 t161 t162 t163 t164 t165 t166 t167 t168 t169 t170 t171 t172 t173 t174 t175 t176 t177 t178 t179 t180 t181 t182 t183 t184 t185 t186 t187 t188 t189 t190 t191 t192 t193 t194 t195 t196 t197 t198 t199 t200 t201 t202 t203 t204 t205 t206 t207 t208 t209 t210 t211 t212 t213 t214 t215 t216 t217 t218 t219 t220 t221 t222 t223 t224 t225 t226 t227 t228 t229 t230 t231 t232 t233 t234 t235 t236 t237 t238 t239 t240 t241 t242 t243 t244 t245 t246 t247 t248 t249 t250 t251 t252 t253 t254 t255 t256 t257 t258 t259 t260 t261 t262 t263 t264 t265 t266 t267 t268 t269 t270 t271 t272 t273 t274 t275 t276 t277 t278 t279 t280 t281 t282 t283 t284 t285 t286 t287 t288 t289 t290 t291 t292 t293 t294 t295 t296 t297 t298 t299 t300 t301 t302 t303 t304 t305 t306 t307 t308 t309 t310 t311 t312 t313 t314 t315 t316 t317 t318 t319 t320 t321 t322 t323 t324 t325 t326 t327 t328 t329 t330 t331 t332 t333 t334 t335 t336 t337 t338 t339 t340 t341 t342 t343 t344 t345 t346 t347 t348 t349 t350 t351 t352 t353 t354 t355 t356 t357 t358 t359 t360 t361 t362 t363 t364 t365 t366 t367 t368 t369 t370 t371 t372 t373 t374 t375 t376 t377 : Value} {wz : World} {pm me bu b16 b17 : Nat} {cb v f r : Nat → Nat} {g : Nat → Int} {ix : Int} {st : Nat → Option (List Value)} {s co : Nat → Int} {R : Nat → List Value} {rf : Nat → Nat → Int} {u : Nat → Int}
    (HP : Hid (PlayAt wz pm me cb v f r bu g ix st s co R rf u)) (HS : Hid (Sl wz v r b16 b17)) {Q : Exit → Act → World → Prop}
    (hQ : ∀ (u6 u24 u25 u26 u27 u28 u300 u301 u302 u303 u304 u305 u306 u307 u308 u309 u310 u311 u312 u313 u314 u315 u316 u317 u318 u319 u320 u321 u322 u323 u324 u325 u326 u327 u328 u329 u330 u331 u332 u333 u334 u335 u336 u337 u338 u339 u340 u341 u342 u343 u344 u345 u346 u347 u348 u349 u350 u351 u352 u353 u354 u355 u356 u357 u358 u359 u360 u361 u362 u363 u364 u365 u366 u367 u368 u369 u370 u371 u372 u373 u374 u375 u376 u377 : Value) (w' : World), Grows wz w' → Q Exit.normal { tmps := List.toArray (t0 :: t1 :: t2 :: t3 :: t4 :: t5 :: u6 :: (Value.pointer (some ⟨pm, 0, none⟩)) :: t8 :: t9 :: t10 :: t11 :: t12 :: t13 :: t14 :: t15 :: (Value.slice (some ⟨b16, 0, none⟩) 2 2) :: (Value.slice (some ⟨b17, 0, none⟩) 2 2) :: t18 :: t19 :: t20 :: t21 :: t22 :: t23 :: u24 :: u25 :: u26 :: u27 :: u28 :: t29 :: t30 :: t31 :: t32 :: t33 :: t34 :: t35 :: t36 :: t37 :: t38 :: t39 :: t40 :: t41 :: t42 :: t43 :: t44 :: t45 :: t46 :: t47 :: t48 :: t49 :: t50 :: t51 :: t52 :: t53 :: t54 :: t55 :: t56 :: t57 :: t58 :: t59 :: t60 :: t61 :: t62 :: t63 :: t64 :: t65 :: t66 :: t67 :: t68 :: t69 :: t70 :: t71 :: t72 :: t73 :: t74 :: t75 :: t76 :: t77 :: t78 :: t79 :: t80 :: t81 :: t82 :: t83 :: t84 :: t85 :: t86 :: t87 :: t88 :: t89 :: t90 :: t91 :: t92 :: t93 :: t94 :: t95 :: t96 :: t97 :: t98 :: t99 :: t100 :: t101 :: t102 :: t103 :: t104 :: t105 :: t106 :: t107 :: t108 :: t109 :: t110 :: t111 :: t112 :: t113 :: t114 :: t115 :: t116 :: t117 :: t118 :: t119 :: t120 :: t121 :: t122 :: t123 :: t124 :: t125 :: t126 :: t127 :: t128 :: t129 :: t130 :: t131 :: t132 :: t133 :: t134 :: t135 :: t136 :: t137 :: t138 :: t139 :: t140 :: t141 :: t142 :: t143 :: t144 :: t145 :: t146 :: t147 :: t148 :: t149 :: t150 :: t151 :: t152 :: t153 :: t154 :: t155 :: t156 :: t157 :: t158 :: t159 :: t160 :: t161 :: t162 :: t163 :: t164 :: t165 :: t166 :: t167 :: t168 :: t169 :: t170 :: t171 :: t172 :: t173 :: t174 :: t175 :: t176 :: t177 :: t178 :: t179 :: t180 :: t181 :: t182 :: t183 :: t184 :: t185 :: t186 :: t187 :: t188 :: t189 :: t190 :: t191 :: t192 :: t193 :: t194 :: t195 :: t196 :: t197 :: t198 :: t199 :: t200 :: t201 :: t202 :: t203 :: t204 :: t205 :: t206 :: t207 :: t208 :: t209 :: t210 :: t211 :: t212 :: t213 :: t214 :: t215 :: t216 :: t217 :: t218 :: t219 :: t220 :: t221 :: t222 :: t223 :: t224 :: t225 :: t226 :: t227 :: t228 :: t229 :: t230 :: t231 :: t232 :: t233 :: t234 :: t235 :: t236 :: t237 :: t238 :: t239 :: t240 :: t241 :: t242 :: t243 :: t244 :: t245 :: t246 :: t247 :: t248 :: t249 :: t250 :: t251 :: t252 :: t253 :: t254 :: t255 :: t256 :: t257 :: t258 :: t259 :: t260 :: t261 :: t262 :: t263 :: t264 :: t265 :: t266 :: t267 :: t268 :: t269 :: t270 :: t271 :: t272 :: t273 :: t274 :: t275 :: t276 :: t277 :: t278 :: t279 :: t280 :: t281 :: t282 :: t283 :: t284 :: t285 :: t286 :: t287 :: t288 :: t289 :: t290 :: t291 :: t292 :: t293 :: t294 :: t295 :: t296 :: t297 :: t298 :: t299 :: u300 :: u301 :: u302 :: u303 :: u304 :: u305 :: u306 :: u307 :: u308 :: u309 :: u310 :: u311 :: u312 :: u313 :: u314 :: u315 :: u316 :: u317 :: u318 :: u319 :: u320 :: u321 :: u322 :: u323 :: u324 :: u325 :: u326 :: u327 :: u328 :: u329 :: u330 :: u331 :: u332 :: u333 :: u334 :: u335 :: u336 :: u337 :: u338 :: u339 :: u340 :: u341 :: u342 :: u343 :: u344 :: u345 :: u346 :: u347 :: u348 :: u349 :: u350 :: u351 :: u352 :: u353 :: u354 :: u355 :: u356 :: u357 :: u358 :: u359 :: u360 :: u361 :: u362 :: u363 :: u364 :: u365 :: u366 :: u367 :: u368 :: u369 :: u370 :: u371 :: u372 :: u373 :: u374 :: u375 :: u376 :: u377 :: []), defers := [] } w') :
    Code.wp Try.prog tl Q { tmps := List.toArray (t0 :: t1 :: t2 :: t3 :: t4 :: t5 :: t6 :: (Value.pointer (some ⟨pm, 0, none⟩)) :: t8 :: t9 :: t10 :: t11 :: t12 :: t13 :: t14 :: t15 :: (Value.slice (some ⟨b16, 0, none⟩) 2 2) :: (Value.slice (some ⟨b17, 0, none⟩) 2 2) :: t18 :: t19 :: t20 :: t21 :: t22 :: t23 :: t24 :: t25 :: t26 :: t27 :: t28 :: t29 :: t30 :: t31 :: t32 :: t33 :: t34 :: t35 :: t36 :: t37 :: t38 :: t39 :: t40 :: t41 :: t42 :: t43 :: t44 :: t45 :: t46 :: t47 :: t48 :: t49 :: t50 :: t51 :: t52 :: t53 :: t54 :: t55 :: t56 :: t57 :: t58 :: t59 :: t60 :: t61 :: t62 :: t63 :: t64 :: t65 :: t66 :: t67 :: t68 :: t69 :: t70 :: t71 :: t72 :: t73 :: t74 :: t75 :: t76 :: t77 :: t78 :: t79 :: t80 :: t81 :: t82 :: t83 :: t84 :: t85 :: t86 :: t87 :: t88 :: t89 :: t90 :: t91 :: t92 :: t93 :: t94 :: t95 :: t96 :: t97 :: t98 :: t99 :: t100 :: t101 :: t102 :: t103 :: t104 :: t105 :: t106 :: t107 :: t108 :: t109 :: t110 :: t111 :: t112 :: t113 :: t114 :: t115 :: t116 :: t117 :: t118 :: t119 :: t120 :: t121 :: t122 :: t123 :: t124 :: t125 :: t126 :: t127 :: t128 :: t129 :: t130 :: t131 :: t132 :: t133 :: t134 :: t135 :: t136 :: t137 :: t138 :: t139 :: t140 :: t141 :: t142 :: t143 :: t144 :: t145 :: t146 :: t147 :: t148 :: t149 :: t150 :: t151 :: t152 :: t153 :: t154 :: t155 :: t156 :: t157 :: t158 :: t159 :: t160 :: t161 :: t162 :: t163 :: t164 :: t165 :: t166 :: t167 :: t168 :: t169 :: t170 :: t171 :: t172 :: t173 :: t174 :: t175 :: t176 :: t177 :: t178 :: t179 :: t180 :: t181 :: t182 :: t183 :: t184 :: t185 :: t186 :: t187 :: t188 :: t189 :: t190 :: t191 :: t192 :: t193 :: t194 :: t195 :: t196 :: t197 :: t198 :: t199 :: t200 :: t201 :: t202 :: t203 :: t204 :: t205 :: t206 :: t207 :: t208 :: t209 :: t210 :: t211 :: t212 :: t213 :: t214 :: t215 :: t216 :: t217 :: t218 :: t219 :: t220 :: t221 :: t222 :: t223 :: t224 :: t225 :: t226 :: t227 :: t228 :: t229 :: t230 :: t231 :: t232 :: t233 :: t234 :: t235 :: t236 :: t237 :: t238 :: t239 :: t240 :: t241 :: t242 :: t243 :: t244 :: t245 :: t246 :: t247 :: t248 :: t249 :: t250 :: t251 :: t252 :: t253 :: t254 :: t255 :: t256 :: t257 :: t258 :: t259 :: t260 :: t261 :: t262 :: t263 :: t264 :: t265 :: t266 :: t267 :: t268 :: t269 :: t270 :: t271 :: t272 :: t273 :: t274 :: t275 :: t276 :: t277 :: t278 :: t279 :: t280 :: t281 :: t282 :: t283 :: t284 :: t285 :: t286 :: t287 :: t288 :: t289 :: t290 :: t291 :: t292 :: t293 :: t294 :: t295 :: t296 :: t297 :: t298 :: t299 :: t300 :: t301 :: t302 :: t303 :: t304 :: t305 :: t306 :: t307 :: t308 :: t309 :: t310 :: t311 :: t312 :: t313 :: t314 :: t315 :: t316 :: t317 :: t318 :: t319 :: t320 :: t321 :: t322 :: t323 :: t324 :: t325 :: t326 :: t327 :: t328 :: t329 :: t330 :: t331 :: t332 :: t333 :: t334 :: t335 :: t336 :: t337 :: t338 :: t339 :: t340 :: t341 :: t342 :: t343 :: t344 :: t345 :: t346 :: t347 :: t348 :: t349 :: t350 :: t351 :: t352 :: t353 :: t354 :: t355 :: t356 :: t357 :: t358 :: t359 :: t360 :: t361 :: t362 :: t363 :: t364 :: t365 :: t366 :: t367 :: t368 :: t369 :: t370 :: t371 :: t372 :: t373 :: t374 :: t375 :: t376 :: t377 :: []), defers := [] } wz := by
  change Code.wp Try.prog (Code.seq _ _) _ _ _
  have HQ := Lib.hid hQ
  clear hQ
  go_wp2_with fail
  go_loopw [24] (fun i wr => ∃ j : Nat, j ≤ 2 ∧ i = .int .i64 j ∧ Grows wz wr) (fun i _ => (2 - intOf i).toNat)
  case atStart => exact ⟨0, by omega, rfl, Grows.refl _⟩
  case round =>
    obtain ⟨j, hj, rfl, hgj⟩ := hrel
    by_cases hlj : j < 2
    · have hP := HP.out.grows hgj
      have hS := HS.out.grows hgj
      obtain ⟨y0, y1⟩ := hS.at hlj
      have HGJ := Lib.hid hgj
      have hst := state_ok (hP.vc j hlj)
      have hnm := fun W (hg : Grows _ W) => name_ok ((hP.vc j hlj).grows hg)
      clear hgj
      go_wp2_with fail
      refine hst.mono ?_
      rintro _ w9 ⟨rfl, hg9⟩
      obtain ⟨y0, y1⟩ := (hS.grows hg9).at hlj
      go_wp2_with fail
      refine (hnm _ hg9).mono ?_
      rintro _ w10 ⟨rfl, hg10⟩
      have hg10 := hg9.trans hg10
      obtain ⟨y0, y1⟩ := (hS.grows hg10).at hlj
      have hr10 := (hP.rv j hlj).grows hg10
      have lt16 := (hS.grows hg10).1.lt
      have lt17 := (hS.grows hg10).2.lt
      have ltr := hr10.row.lt
      obtain ⟨z0, z1, z2, z3⟩ := hr10.cells
      have HRN : Hid (∀ w', (∃ g, w' = w10.grow g) → w'.rangeAt (r j) 4 (R j)) := Lib.hid (fun w' ⟨g, hg⟩ => by rw [hg]; exact (hr10.grows (Grows.of _ _)).range)
      have HIL := Lib.hid (show (Try.prog.info? 43).map (·.size) = some (R j).length by rw [hr10.reg.len]; kernel_rfl)
      have q1 := quiet_of (w := w10) (fun W hg => ((hP.grows hg10).grows hg).regs hlj)
      have heq := neq_regL hr10.reg
      have HG10 := Lib.hid (HGJ.out.trans hg10)
      have HN10 := Lib.hid (show (j : Int) < 2 ∧ 0 ≤ (j : Int) by omega)
      have i0 := HN10.out.1
      have i1 := HN10.out.2
      clear hst hnm hP hS hg9 hg10 hr10 HGJ
      generalize s j = sj at *
      generalize co j = coj at *
      generalize g j = gj at *
      generalize R j = Rj at *
      go_wp2_with fail
      refine wp_region_grow (by kernel_rfl) (by kernel_rfl) ?_
      repeat (first
        | (go_big_quiet_want; refine quiet_load_mid 43 (.tmp 374) (by rfl) (r j) 4 (by rfl) Rj _ (by exact HRN.out) Try.underlying43 (by rfl) (by exact HIL.out) ?_; go_big_quiet_on; go_simp)
        | go_big_quiet_step ((first | (go_at_call 22; exact q1 _))))
      refine wpQuiet_nil ?_
      intro gg
      obtain ⟨Wq, hWq⟩ : ∃ Wq, Wq = w10.grow gg := ⟨_, rfl⟩
      have HGQ : Hid (Grows wz Wq) := Lib.hid (by rw [hWq]; exact HG10.out.trans (Grows.of _ gg))
      rw [← hWq]
      clear hWq y0 y1 z0 z1 z2 z3 lt16 lt17 ltr HRN HIL q1 heq HG10
      go_wp2_with fail
      go_roundw
      case measure => simp [intOf]; omega
      case rel => exact ⟨j + 1, by omega, by simp, HGQ.out⟩
    · have : j = 2 := by omega
      subst this
      have HGZ := Lib.hid hgj
      clear hgj
      go_wp2_with fail
      exact HQ.out _ _ _ _ _ _ _ _ _ _ _ _ _ _ _ _ _ _ _ _ _ _ _ _ _ _ _ _ _ _ _ _ _ _ _ _ _ _ _ _ _ _ _ _ _ _ _ _ _ _ _ _ _ _ _ _ _ _ _ _ _ _ _ _ _ _ _ _ _ _ _ _ _ _ _ _ _ _ _ _ _ _ _ _ _ HGZ.out
end Go.Proofs.Ytilefidnjjbboaa
