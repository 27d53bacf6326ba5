/- The listed variables but the first. -/
import Derived.Lib.LaidTab
namespace Go
theorem laidMet_tail {P : Program} {x : String × DataW Unit} {rest : List (String × DataW Unit)} {W : World} (h : laidMet P (x :: rest) W) : laidMet P rest W := by
  obtain ⟨ps, ⟨g', t', cs, fuel, p, q, _, _, _, _, h1, h2⟩, hnd, hall⟩ := h
  subst h2
  exact ⟨q, h1, (List.nodup_append.1 hnd).2.1, fun b off hm => hall b off (List.mem_append_right _ hm)⟩
end Go
