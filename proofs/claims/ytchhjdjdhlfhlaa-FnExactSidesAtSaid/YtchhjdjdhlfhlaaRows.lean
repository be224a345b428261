/-
  No cell of these rows narrows 'for every input' (looked for: loops, veiled, ifaces, maps, wideKeys, modest, calm, conditions, laid).
  DERIVED. THE GIVEN ROWS OF THIS SEAT. 5 by the template 'for every input the law returns true; each argument reads behind the call as it read before'; 0 by the template 'total and deterministic' (their statements: YtchhjdjdhlfhlaaTotals.lean).
  GIVEN WITH THE SEED: the statements are not yours to turn. If you find one false, say at which input.
  Laid BY PROGRAM, IN A SANDBOX (cutbox-rows.mjs): the forced cells as the released guide's own fill.sh prints them over the translation 188be78feea4ce83… (all of the seat's roots in one cut). By AI agents, Wed Nov 11 2026. No macro, syntax, notation, axiom, sorry.
-/
import Derived.Test.YtchhjdjdhlfhlaaChecked
import GoSem.Claim
import GoSem.ClaimJoined
import GoSem.ClaimMapViews
import Derived.JoinedTies
import Derived.KernelRfl
namespace Go.Proofs.Ytchhjdjdhlfhlaa
/- THE CELL 'sum', in the pinned program and in every row, IS THE sha256 OF THE DUMP (.gsa) THAT YtchhjdjdhlfhlaaProg.lean LOADS. Nothing in Lean hashes anything: it is a label: what it is worth is what the hold of that sum in a sandbox is worth. -/
noncomputable def Try.pinned : Pinned := { name := "ytchhjdjdhlfhlaa", sum := "188be78feea4ce83aa6296f18c7633cfebdbfd8c3090812fe15ae84d6fc4f245", checked := Try.checked }
namespace Rows
def none {H : Type} : Left H := { results := [], args := [] }

/-- 'laws.FnExactValidLevels': WHATEVER THE INPUT: true; the input reads as it did. -/
def fnExactValidLevelsSpec : ChangeSpec := { name := "fnExactValidLevels", fn := fun _ => fun
  | [d1, d2] => { results := [.lit (.bool true)], args := [d1, d2] }
  | _ => none }
def fnExactValidLevelsRow : OpenClaim := { program := "ytchhjdjdhlfhlaa", sum := "188be78feea4ce83aa6296f18c7633cfebdbfd8c3090812fe15ae84d6fc4f245", func := "loop.example/g01405/laws.FnExactValidLevels", spec := "fnExactValidLevels", apart := false }
def FnExactValidLevelsSaid : Prop := fnExactValidLevelsRow.holds Try.pinned (OpenSpec.ofChange fnExactValidLevelsSpec)

/-- ITS FALSE NEIGHBOUR: 'it returns false'. Refute it at one input. -/
def fnExactValidLevelsWrong : ChangeSpec := { name := "fnExactValidLevels", fn := fun _ => fun
  | [d1, d2] => { results := [.lit (.bool false)], args := [d1, d2] }
  | _ => none }
def FnExactValidLevelsWrongFalsely : Prop := fnExactValidLevelsRow.holds Try.pinned (OpenSpec.ofChange fnExactValidLevelsWrong)

/-- 'laws.FnExactCornersOf': WHATEVER THE INPUT: true; the input reads as it did. -/
def fnExactCornersOfSpec : ChangeSpec := { name := "fnExactCornersOf", fn := fun _ => fun
  | [d] => { results := [.lit (.bool true)], args := [d] }
  | _ => none }
def fnExactCornersOfRow : OpenClaim := { program := "ytchhjdjdhlfhlaa", sum := "188be78feea4ce83aa6296f18c7633cfebdbfd8c3090812fe15ae84d6fc4f245", func := "loop.example/g01405/laws.FnExactCornersOf", spec := "fnExactCornersOf", apart := false }
def FnExactCornersOfSaid : Prop := fnExactCornersOfRow.holds Try.pinned (OpenSpec.ofChange fnExactCornersOfSpec)

/-- ITS FALSE NEIGHBOUR: 'it returns false'. Refute it at one input. -/
def fnExactCornersOfWrong : ChangeSpec := { name := "fnExactCornersOf", fn := fun _ => fun
  | [d] => { results := [.lit (.bool false)], args := [d] }
  | _ => none }
def FnExactCornersOfWrongFalsely : Prop := fnExactCornersOfRow.holds Try.pinned (OpenSpec.ofChange fnExactCornersOfWrong)

/-- 'laws.FnExactSidesAt': WHATEVER THE INPUT: true; the input reads as it did. -/
def fnExactSidesAtSpec : ChangeSpec := { name := "fnExactSidesAt", fn := fun _ => fun
  | [d1, d2] => { results := [.lit (.bool true)], args := [d1, d2] }
  | _ => none }
def fnExactSidesAtRow : OpenClaim := { program := "ytchhjdjdhlfhlaa", sum := "188be78feea4ce83aa6296f18c7633cfebdbfd8c3090812fe15ae84d6fc4f245", func := "loop.example/g01405/laws.FnExactSidesAt", spec := "fnExactSidesAt", unfollowed := true, recurses := true, apart := false }
def FnExactSidesAtSaid : Prop := fnExactSidesAtRow.holds Try.pinned (OpenSpec.ofChange fnExactSidesAtSpec)

/-- ITS FALSE NEIGHBOUR: 'it returns false'. Refute it at one input. -/
def fnExactSidesAtWrong : ChangeSpec := { name := "fnExactSidesAt", fn := fun _ => fun
  | [d1, d2] => { results := [.lit (.bool false)], args := [d1, d2] }
  | _ => none }
def FnExactSidesAtWrongFalsely : Prop := fnExactSidesAtRow.holds Try.pinned (OpenSpec.ofChange fnExactSidesAtWrong)

/-- 'laws.FnExactSoilSum': WHATEVER THE INPUT: true; the input reads as it did. -/
def fnExactSoilSumSpec : ChangeSpec := { name := "fnExactSoilSum", fn := fun _ => fun
  | [d1, d2] => { results := [.lit (.bool true)], args := [d1, d2] }
  | _ => none }
def fnExactSoilSumRow : OpenClaim := { program := "ytchhjdjdhlfhlaa", sum := "188be78feea4ce83aa6296f18c7633cfebdbfd8c3090812fe15ae84d6fc4f245", func := "loop.example/g01405/laws.FnExactSoilSum", spec := "fnExactSoilSum", unfollowed := true, recurses := true, apart := false }
def FnExactSoilSumSaid : Prop := fnExactSoilSumRow.holds Try.pinned (OpenSpec.ofChange fnExactSoilSumSpec)

/-- ITS FALSE NEIGHBOUR: 'it returns false'. Refute it at one input. -/
def fnExactSoilSumWrong : ChangeSpec := { name := "fnExactSoilSum", fn := fun _ => fun
  | [d1, d2] => { results := [.lit (.bool false)], args := [d1, d2] }
  | _ => none }
def FnExactSoilSumWrongFalsely : Prop := fnExactSoilSumRow.holds Try.pinned (OpenSpec.ofChange fnExactSoilSumWrong)

/-- 'laws.FnExactBestStripes': WHATEVER THE INPUT: true; the input reads as it did. -/
def fnExactBestStripesSpec : ChangeSpec := { name := "fnExactBestStripes", fn := fun _ => fun
  | [d] => { results := [.lit (.bool true)], args := [d] }
  | _ => none }
def fnExactBestStripesRow : OpenClaim := { program := "ytchhjdjdhlfhlaa", sum := "188be78feea4ce83aa6296f18c7633cfebdbfd8c3090812fe15ae84d6fc4f245", func := "loop.example/g01405/laws.FnExactBestStripes", spec := "fnExactBestStripes", unfollowed := true, recurses := true, apart := false }
def FnExactBestStripesSaid : Prop := fnExactBestStripesRow.holds Try.pinned (OpenSpec.ofChange fnExactBestStripesSpec)

/-- ITS FALSE NEIGHBOUR: 'it returns false'. Refute it at one input. -/
def fnExactBestStripesWrong : ChangeSpec := { name := "fnExactBestStripes", fn := fun _ => fun
  | [d] => { results := [.lit (.bool false)], args := [d] }
  | _ => none }
def FnExactBestStripesWrongFalsely : Prop := fnExactBestStripesRow.holds Try.pinned (OpenSpec.ofChange fnExactBestStripesWrong)

/- THE SECOND FORM. 'bulk': how many values and letters a reading holds, each counted each time it is reached (what is shared counts as often as it is met; a slice's spare places count too). A statement '..UptoSaid' is the law's where the arguments, and the package variables that the reading takes, are together of bulk at most 1048576: NARROWER than '..Said'. Prove '..Said' where nothing that the law and all that it calls make is longer than what came in: it says more and counts as full. Else prove '..UptoSaid'. A law counts once. -/
mutual
def uptoBulk {H : Type} : DataW H → Nat
  | .lit (.string bytes) => bytes.length + 1
  | .lit _ => 1
  | .nil => 1
  | .ptr d => uptoBulk d + 1
  | .slice elems spare => uptoBulkAll elems + uptoBulkAll spare + 1
  | .agg parts => uptoBulkAll parts + 1
  | .iface _ d => uptoBulk d + 1
  | .map entries => uptoBulkEntries entries + 1
  | .held _ => 1
def uptoBulkAll {H : Type} : List (DataW H) → Nat
  | [] => 0
  | d :: r => uptoBulk d + uptoBulkAll r
def uptoBulkEntries {H : Type} : List (Lit × DataW H) → Nat
  | [] => 0
  | x :: r => uptoBulkEntry x + uptoBulkEntries r
def uptoBulkEntry {H : Type} : Lit × DataW H → Nat
  | (.string bytes, d) => bytes.length + uptoBulk d + 1
  | (_, d) => uptoBulk d + 1
 end
def uptoSmall : (H : Type) → List (DataW H) → Bool := fun _ ds => decide (uptoBulkAll ds ≤ 1048576)
def OpenSpec.upto (s : _root_.Go.ChangeSpec) : _root_.Go.OpenSpec := { _root_.Go.OpenSpec.ofChange s with cond := some uptoSmall }

/-- 'laws.FnExactValidLevels', WHERE WHAT IT READS IS OF BULK AT MOST 1048576: true; the input reads as it did. -/
def fnExactValidLevelsUptoRow : OpenClaim := { program := "ytchhjdjdhlfhlaa", sum := "188be78feea4ce83aa6296f18c7633cfebdbfd8c3090812fe15ae84d6fc4f245", func := "loop.example/g01405/laws.FnExactValidLevels", spec := "fnExactValidLevels", apart := false, narrowed := true }
def FnExactValidLevelsUptoSaid : Prop := fnExactValidLevelsUptoRow.holds Try.pinned (OpenSpec.upto fnExactValidLevelsSpec)

/-- 'laws.FnExactCornersOf', WHERE WHAT IT READS IS OF BULK AT MOST 1048576: true; the input reads as it did. -/
def fnExactCornersOfUptoRow : OpenClaim := { program := "ytchhjdjdhlfhlaa", sum := "188be78feea4ce83aa6296f18c7633cfebdbfd8c3090812fe15ae84d6fc4f245", func := "loop.example/g01405/laws.FnExactCornersOf", spec := "fnExactCornersOf", apart := false, narrowed := true }
def FnExactCornersOfUptoSaid : Prop := fnExactCornersOfUptoRow.holds Try.pinned (OpenSpec.upto fnExactCornersOfSpec)

/-- 'laws.FnExactSidesAt', WHERE WHAT IT READS IS OF BULK AT MOST 1048576: true; the input reads as it did. -/
def fnExactSidesAtUptoRow : OpenClaim := { program := "ytchhjdjdhlfhlaa", sum := "188be78feea4ce83aa6296f18c7633cfebdbfd8c3090812fe15ae84d6fc4f245", func := "loop.example/g01405/laws.FnExactSidesAt", spec := "fnExactSidesAt", unfollowed := true, recurses := true, apart := false, narrowed := true }
def FnExactSidesAtUptoSaid : Prop := fnExactSidesAtUptoRow.holds Try.pinned (OpenSpec.upto fnExactSidesAtSpec)

/-- 'laws.FnExactSoilSum', WHERE WHAT IT READS IS OF BULK AT MOST 1048576: true; the input reads as it did. -/
def fnExactSoilSumUptoRow : OpenClaim := { program := "ytchhjdjdhlfhlaa", sum := "188be78feea4ce83aa6296f18c7633cfebdbfd8c3090812fe15ae84d6fc4f245", func := "loop.example/g01405/laws.FnExactSoilSum", spec := "fnExactSoilSum", unfollowed := true, recurses := true, apart := false, narrowed := true }
def FnExactSoilSumUptoSaid : Prop := fnExactSoilSumUptoRow.holds Try.pinned (OpenSpec.upto fnExactSoilSumSpec)

/-- 'laws.FnExactBestStripes', WHERE WHAT IT READS IS OF BULK AT MOST 1048576: true; the input reads as it did. -/
def fnExactBestStripesUptoRow : OpenClaim := { program := "ytchhjdjdhlfhlaa", sum := "188be78feea4ce83aa6296f18c7633cfebdbfd8c3090812fe15ae84d6fc4f245", func := "loop.example/g01405/laws.FnExactBestStripes", spec := "fnExactBestStripes", unfollowed := true, recurses := true, apart := false, narrowed := true }
def FnExactBestStripesUptoSaid : Prop := fnExactBestStripesUptoRow.holds Try.pinned (OpenSpec.upto fnExactBestStripesSpec)

end Rows
end Go.Proofs.Ytchhjdjdhlfhlaa
