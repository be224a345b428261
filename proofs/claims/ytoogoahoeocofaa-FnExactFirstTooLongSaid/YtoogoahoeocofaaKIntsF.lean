/- Plain laws: numbers laid anew. -/
import Derived.Test.YtoogoahoeocofaaKPureF
namespace Go.Proofs.Ytoogoahoeocofaa.QF
set_option linter.unusedSimpArgs false
set_option linter.unusedVariables false
open Go.RowKit Go.Proofs.Ytoogoahoeocofaa.B Go.Proofs.YtoogoahoeocofaaW.PrintWords Go.Proofs.YtoogoahoeocofaaW.PrintLast Go.Proofs.YtoogoahoeocofaaW.PrintMore

theorem toI_loop (xs : List Int) (hl : xs.length ≤ 1048576) : ∀ (n i : Nat) (acc : List Int), i + n = xs.length → acc.length = xs.length → (∀ j, j < i → acc.getD j 0 = xs.getD j 0) →
    Evn (fun k => laws_toInt64S.l0 k xs acc i) xs := by
  intro n
  induction n with
  | zero =>
    intro i acc hi ha hh
    refine Evn.succ ?_
    simp only [laws_toInt64S.l0]
    have e : acc = xs := List.ext_getElem ha (fun j h1 h2 => by
      have := hh j (by omega)
      simpa [List.getD_eq_getElem?_getD, h1, h2] using this)
    rw [e]
    exact Evn.neg (by omega) (Evn.now _)
  | succ n ih =>
    intro i acc hi ha hh
    refine Evn.succ ?_
    simp only [laws_toInt64S.l0]
    refine Evn.pos (by omega) (Evn.pos (by omega) (Evn.pos (by omega) ?_))
    rw [wrap64_in (by omega) (by omega)]
    simpa using ih (i + 1) (acc.set i (rd xs i)) (by omega) (by rw [List.length_set]; exact ha) (fun j hj => by
      by_cases e : j = i
      · subst e
        simp only [List.getD_eq_getElem?_getD]
        rw [List.getElem?_set_self (by omega)]
        simp [rd, List.getD_eq_getElem?_getD]
      · simp only [List.getD_eq_getElem?_getD]
        rw [List.getElem?_set_ne (by omega)]
        simpa [List.getD_eq_getElem?_getD] using hh j (by omega))
theorem toI (xs : List Int) (hl : xs.length ≤ 1048576) : Evn (fun k => laws_toInt64S.f k xs) xs := by
  unfold laws_toInt64S.f
  exact Evn.pos (by omega) (Evn.pos (by omega) (by simpa using toI_loop xs hl xs.length 0 (List.replicate ((xs.length : Int)).toNat 0) (by omega) (by simp) (fun j hj => by omega)))
end Go.Proofs.Ytoogoahoeocofaa.QF
