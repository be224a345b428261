/- Plain laws: heights within bounds. -/
import Derived.Test.YtkebohpfneiimaaKPureF
namespace Go.Proofs.Ytkebohpfneiimaa.QF
set_option linter.unusedSimpArgs false
set_option linter.unusedVariables false
open Go.RowKit Go.Proofs.Ytkebohpfneiimaa.B Go.Proofs.YtkebohpfneiimaaW.PrintWords Go.Proofs.YtkebohpfneiimaaW.PrintLast Go.Proofs.YtkebohpfneiimaaW.PrintMore

theorem high_clip (n : Int) : spec_l03High.f n = some (clip_ n) := by
  unfold spec_l03High.f spec_l00In.f clip_
  by_cases h1 : 0 ≤ n <;> by_cases h2 : n ≤ 200 <;> simp [h1, h2]
theorem all_rd {p : Int → Bool} {xs : List Int} : xs.all p = true ↔ ∀ j : Nat, j < xs.length → p (rd xs j) = true := by
  rw [List.all_eq_true]
  constructor
  · intro h j hj
    refine h _ ?_
    unfold rd
    rw [List.getD_eq_getElem?_getD, List.getElem?_eq_getElem (by simpa using hj)]
    exact List.getElem_mem _
  · intro h x hx
    obtain ⟨j, hj, rfl⟩ := List.getElem_of_mem hx
    have := h j hj
    unfold rd at this
    rw [List.getD_eq_getElem?_getD, List.getElem?_eq_getElem (by simpa using hj)] at this
    simpa using this
end Go.Proofs.Ytkebohpfneiimaa.QF
