/- The law FnExactCodeName over numbers alone: the name of a code is the reference's, for every code. No condition. -/
import Derived.Test.YtpmbcploicfoaaaPFnExactCodeNamex1
namespace Go.Proofs.Ytpmbcploicfoaaa.Pure
open Go.RowKit Go.Proofs.Ytpmbcploicfoaaa.PFnExactCodeName Go.Proofs.YtpmbcploicfoaaaW.PrintWords Go.Proofs.YtpmbcploicfoaaaW.PrintLast

/-- YOURS: ∀ (a0 : Int), (Lit.int .i64 a0).wf = true → laws_FnExactCodeName.f a0 = some true
What it reaches (each with k first where it has rounds; `.mono`: more rounds tell the same; `.l0`, ..: its loops, with `.mono_l`): spec_l00In.f, spec_CodeName.f, impl_within.f, impl_CodeName.f, laws_FnExactCodeName.f -/
theorem FnExactCodeName : laws_FnExactCodeName.Pure := by
  intro a _
  unfold laws_FnExactCodeName.f spec_CodeName.f impl_CodeName.f spec_l00In.f impl_within.f
  by_cases h0 : 0 ≤ a
  · by_cases h8 : a ≤ 8
    · simp [h0, h8, show a < 9 by omega]
    · simp [h0, h8]
  · simp [h0]

end Go.Proofs.Ytpmbcploicfoaaa.Pure
