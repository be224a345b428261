/- GrowthOf: both sides answer the same number, in plain terms. -/
import Derived.Test.YtpmbcploicfoaaaPFnExactGrowthOfx1
namespace Go.Proofs.Ytpmbcploicfoaaa.B
set_option linter.unusedSimpArgs false
set_option linter.unusedVariables false
open Go.RowKit Go.Proofs.Ytpmbcploicfoaaa.PFnExactGrowthOf
theorem within_in (a b c : Int) : impl_within.f a b c = spec_l00In.f a b c := rfl
theorem growthSame (x y : Int) : laws_FnExactGrowthOf.f x y = some true := by
  have hd : impl_isDay.f x y = spec_l03Day.f x y := rfl
  have hg : impl_Weather_grows.f x y = spec_l03Growth.f x y := rfl
  have h : ∃ a b, spec_GrowthOf.f x y = some (a, b) := by
    unfold spec_GrowthOf.f spec_l03Day.f spec_l03Growth.f spec_l00In.f
    by_cases h1 : wrap64 x ≥ 0 <;> by_cases h2 : wrap64 x ≤ 50 <;> by_cases h3 : wrap64 y ≥ 0 <;> by_cases h4 : wrap64 y ≤ 40 <;> simp [h1, h2, h3, h4]
  obtain ⟨a, b, h⟩ := h
  have h2 : impl_GrowthOf.f x y = some (a, b) := by rw [← h]; unfold impl_GrowthOf.f spec_GrowthOf.f; rw [hd, hg]
  unfold laws_FnExactGrowthOf.f laws_toWeather.f
  simp only [Option.bind_some, h, h2, if_true]
theorem growthSame_walk (w : World) (x y : Int) : Calls Try.prog 6 #[.agg #[.int .i8 x, .int .i8 y]] w fun e w' => e = .returned (.bool true) ∧ Below w.heap.size w w' :=
  laws_FnExactGrowthOf.calls x y true w (growthSame x y)
end Go.Proofs.Ytpmbcploicfoaaa.B
