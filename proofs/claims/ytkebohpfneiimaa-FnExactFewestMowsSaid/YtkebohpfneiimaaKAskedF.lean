/- Plain laws: bounds, and what is asked of days. -/
import Derived.Test.YtkebohpfneiimaaKPureF
namespace Go.Proofs.Ytkebohpfneiimaa.QF
set_option linter.unusedSimpArgs false
set_option linter.unusedVariables false
open Go.RowKit Go.Proofs.Ytkebohpfneiimaa.B Go.Proofs.YtkebohpfneiimaaW.PrintWords Go.Proofs.YtkebohpfneiimaaW.PrintLast Go.Proofs.YtkebohpfneiimaaW.PrintMore

theorem in_is (a b c : Int) : spec_l00In.f a b c = some (decide (b ≤ a) && decide (a ≤ c)) := by
  unfold spec_l00In.f
  by_cases h : b ≤ a <;> simp [h]
theorem asked {xs : List (S43)} {b : Bool} (hb : Evn (fun k => spec_l03Ok.f k xs) b) (f : Bool) : Evn (fun k => spec_l03Asked.f k xs f) (if b then (if f then 0 else 2) else 1) := by
  unfold spec_l03Asked.f
  cases b with
  | false => exact Evn.bind hb (Evn.neg (by decide) (Evn.now _))
  | true =>
    cases f with
    | false => exact Evn.bind hb (Evn.pos rfl (Evn.neg (by decide) (Evn.now _)))
    | true => exact Evn.bind hb (Evn.pos rfl (Evn.pos rfl (Evn.now _)))
end Go.Proofs.Ytkebohpfneiimaa.QF
