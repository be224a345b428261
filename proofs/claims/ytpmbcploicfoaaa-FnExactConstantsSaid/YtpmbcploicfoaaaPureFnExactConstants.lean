/- The law FnExactConstants, its print over numbers: the constants are as the law tells. No condition. -/
import Derived.Test.YtpmbcploicfoaaaPFnExactConstantsx1
namespace Go.Proofs.Ytpmbcploicfoaaa.Pure
open Go.RowKit Go.Proofs.Ytpmbcploicfoaaa.PFnExactConstants Go.Proofs.YtpmbcploicfoaaaW.PrintWords Go.Proofs.YtpmbcploicfoaaaW.PrintLast

/-- YOURS: laws_FnExactConstants.f  = some true
What it reaches (each with k first where it has rounds; `.mono`: more rounds tell the same; `.l0`, ..: its loops, with `.mono_l`): laws_FnExactConstants.f -/
theorem FnExactConstants : laws_FnExactConstants.Pure := by
  rfl

end Go.Proofs.Ytpmbcploicfoaaa.Pure
