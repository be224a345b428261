/-
  No cell of these rows narrows 'for every input' (looked for: loops, veiled, ifaces, maps, wideKeys, modest, calm, conditions, laid).
  DERIVED. THE GIVEN ROWS OF THIS SEAT. 6 by the template 'for every input the law returns true; each argument reads behind the call as it read before'; 0 by the template 'total and deterministic' (their statements: YtoogoahoeocofaaTotals.lean).
  GIVEN WITH THE SEED: the statements are not yours to turn. If you find one false, say at which input.
  Laid BY PROGRAM, IN A SANDBOX (cutbox-rows.mjs): the forced cells as the released guide's own fill.sh prints them over the translation ecb96a6eca3685d2… (all of the seat's roots in one cut). By AI agents, Wed Nov 11 2026. No macro, syntax, notation, axiom, sorry.
-/
import Derived.Test.YtoogoahoeocofaaChecked
import GoSem.Claim
import GoSem.ClaimJoined
import GoSem.ClaimMapViews
import Derived.JoinedTies
import Derived.KernelRfl
namespace Go.Proofs.Ytoogoahoeocofaa
/- THE CELL 'sum', in the pinned program and in every row, IS THE sha256 OF THE DUMP (.gsa) THAT YtoogoahoeocofaaProg.lean LOADS. Nothing in Lean hashes anything: it is a label: what it is worth is what the hold of that sum in a sandbox is worth. -/
noncomputable def Try.pinned : Pinned := { name := "ytoogoahoeocofaa", sum := "ecb96a6eca3685d2facb677cd20031492c7e134204104268a2c6d83db08b4297", checked := Try.checked }
namespace Rows
def none {H : Type} : Left H := { results := [], args := [] }

/-- 'laws.FnExactSwapDays': WHATEVER THE INPUT: true; the input reads as it did. -/
def fnExactSwapDaysSpec : ChangeSpec := { name := "fnExactSwapDays", fn := fun _ => fun
  | [d1, d2, d3] => { results := [.lit (.bool true)], args := [d1, d2, d3] }
  | _ => none }
def fnExactSwapDaysRow : OpenClaim := { program := "ytoogoahoeocofaa", sum := "ecb96a6eca3685d2facb677cd20031492c7e134204104268a2c6d83db08b4297", func := "loop.example/g01405/laws.FnExactSwapDays", spec := "fnExactSwapDays", unfollowed := true, recurses := true, apart := false }
def FnExactSwapDaysSaid : Prop := fnExactSwapDaysRow.holds Try.pinned (OpenSpec.ofChange fnExactSwapDaysSpec)

/-- ITS FALSE NEIGHBOUR: 'it returns false'. Refute it at one input. -/
def fnExactSwapDaysWrong : ChangeSpec := { name := "fnExactSwapDays", fn := fun _ => fun
  | [d1, d2, d3] => { results := [.lit (.bool false)], args := [d1, d2, d3] }
  | _ => none }
def FnExactSwapDaysWrongFalsely : Prop := fnExactSwapDaysRow.holds Try.pinned (OpenSpec.ofChange fnExactSwapDaysWrong)

/-- 'laws.FnExactSeedDays': WHATEVER THE INPUT: true; the input reads as it did. -/
def fnExactSeedDaysSpec : ChangeSpec := { name := "fnExactSeedDays", fn := fun _ => fun
  | [d1, d2, d3, d4] => { results := [.lit (.bool true)], args := [d1, d2, d3, d4] }
  | _ => none }
def fnExactSeedDaysRow : OpenClaim := { program := "ytoogoahoeocofaa", sum := "ecb96a6eca3685d2facb677cd20031492c7e134204104268a2c6d83db08b4297", func := "loop.example/g01405/laws.FnExactSeedDays", spec := "fnExactSeedDays", unfollowed := true, recurses := true, apart := false }
def FnExactSeedDaysSaid : Prop := fnExactSeedDaysRow.holds Try.pinned (OpenSpec.ofChange fnExactSeedDaysSpec)

/-- ITS FALSE NEIGHBOUR: 'it returns false'. Refute it at one input. -/
def fnExactSeedDaysWrong : ChangeSpec := { name := "fnExactSeedDays", fn := fun _ => fun
  | [d1, d2, d3, d4] => { results := [.lit (.bool false)], args := [d1, d2, d3, d4] }
  | _ => none }
def FnExactSeedDaysWrongFalsely : Prop := fnExactSeedDaysRow.holds Try.pinned (OpenSpec.ofChange fnExactSeedDaysWrong)

/-- 'laws.FnExactLatePlan': WHATEVER THE INPUT: true; the input reads as it did. -/
def fnExactLatePlanSpec : ChangeSpec := { name := "fnExactLatePlan", fn := fun _ => fun
  | [d1, d2, d3, d4] => { results := [.lit (.bool true)], args := [d1, d2, d3, d4] }
  | _ => none }
def fnExactLatePlanRow : OpenClaim := { program := "ytoogoahoeocofaa", sum := "ecb96a6eca3685d2facb677cd20031492c7e134204104268a2c6d83db08b4297", func := "loop.example/g01405/laws.FnExactLatePlan", spec := "fnExactLatePlan", unfollowed := true, recurses := true, apart := false }
def FnExactLatePlanSaid : Prop := fnExactLatePlanRow.holds Try.pinned (OpenSpec.ofChange fnExactLatePlanSpec)

/-- ITS FALSE NEIGHBOUR: 'it returns false'. Refute it at one input. -/
def fnExactLatePlanWrong : ChangeSpec := { name := "fnExactLatePlan", fn := fun _ => fun
  | [d1, d2, d3, d4] => { results := [.lit (.bool false)], args := [d1, d2, d3, d4] }
  | _ => none }
def FnExactLatePlanWrongFalsely : Prop := fnExactLatePlanRow.holds Try.pinned (OpenSpec.ofChange fnExactLatePlanWrong)

/-- 'laws.FnExactFirstTooLong': WHATEVER THE INPUT: true; the input reads as it did. -/
def fnExactFirstTooLongSpec : ChangeSpec := { name := "fnExactFirstTooLong", fn := fun _ => fun
  | [d1, d2, d3, d4, d5] => { results := [.lit (.bool true)], args := [d1, d2, d3, d4, d5] }
  | _ => none }
def fnExactFirstTooLongRow : OpenClaim := { program := "ytoogoahoeocofaa", sum := "ecb96a6eca3685d2facb677cd20031492c7e134204104268a2c6d83db08b4297", func := "loop.example/g01405/laws.FnExactFirstTooLong", spec := "fnExactFirstTooLong", unfollowed := true, recurses := true, apart := false }
def FnExactFirstTooLongSaid : Prop := fnExactFirstTooLongRow.holds Try.pinned (OpenSpec.ofChange fnExactFirstTooLongSpec)

/-- ITS FALSE NEIGHBOUR: 'it returns false'. Refute it at one input. -/
def fnExactFirstTooLongWrong : ChangeSpec := { name := "fnExactFirstTooLong", fn := fun _ => fun
  | [d1, d2, d3, d4, d5] => { results := [.lit (.bool false)], args := [d1, d2, d3, d4, d5] }
  | _ => none }
def FnExactFirstTooLongWrongFalsely : Prop := fnExactFirstTooLongRow.holds Try.pinned (OpenSpec.ofChange fnExactFirstTooLongWrong)

/-- 'laws.FnExactClippingsOf': WHATEVER THE INPUT: true; the input reads as it did. -/
def fnExactClippingsOfSpec : ChangeSpec := { name := "fnExactClippingsOf", fn := fun _ => fun
  | [d1, d2, d3, d4] => { results := [.lit (.bool true)], args := [d1, d2, d3, d4] }
  | _ => none }
def fnExactClippingsOfRow : OpenClaim := { program := "ytoogoahoeocofaa", sum := "ecb96a6eca3685d2facb677cd20031492c7e134204104268a2c6d83db08b4297", func := "loop.example/g01405/laws.FnExactClippingsOf", spec := "fnExactClippingsOf", unfollowed := true, recurses := true, apart := false }
def FnExactClippingsOfSaid : Prop := fnExactClippingsOfRow.holds Try.pinned (OpenSpec.ofChange fnExactClippingsOfSpec)

/-- ITS FALSE NEIGHBOUR: 'it returns false'. Refute it at one input. -/
def fnExactClippingsOfWrong : ChangeSpec := { name := "fnExactClippingsOf", fn := fun _ => fun
  | [d1, d2, d3, d4] => { results := [.lit (.bool false)], args := [d1, d2, d3, d4] }
  | _ => none }
def FnExactClippingsOfWrongFalsely : Prop := fnExactClippingsOfRow.holds Try.pinned (OpenSpec.ofChange fnExactClippingsOfWrong)

/-- 'laws.FnExactHeightsOf': WHATEVER THE INPUT: true; the input reads as it did. -/
def fnExactHeightsOfSpec : ChangeSpec := { name := "fnExactHeightsOf", fn := fun _ => fun
  | [d1, d2, d3, d4] => { results := [.lit (.bool true)], args := [d1, d2, d3, d4] }
  | _ => none }
def fnExactHeightsOfRow : OpenClaim := { program := "ytoogoahoeocofaa", sum := "ecb96a6eca3685d2facb677cd20031492c7e134204104268a2c6d83db08b4297", func := "loop.example/g01405/laws.FnExactHeightsOf", spec := "fnExactHeightsOf", unfollowed := true, recurses := true, apart := false }
def FnExactHeightsOfSaid : Prop := fnExactHeightsOfRow.holds Try.pinned (OpenSpec.ofChange fnExactHeightsOfSpec)

/-- ITS FALSE NEIGHBOUR: 'it returns false'. Refute it at one input. -/
def fnExactHeightsOfWrong : ChangeSpec := { name := "fnExactHeightsOf", fn := fun _ => fun
  | [d1, d2, d3, d4] => { results := [.lit (.bool false)], args := [d1, d2, d3, d4] }
  | _ => none }
def FnExactHeightsOfWrongFalsely : Prop := fnExactHeightsOfRow.holds Try.pinned (OpenSpec.ofChange fnExactHeightsOfWrong)

/- THE SECOND FORM. 'bulk': how many values and letters a reading holds, each counted each time it is reached (what is shared counts as often as it is met; a slice's spare places count too). A statement '..UptoSaid' is the law's where the arguments, and the package variables that the reading takes, are together of bulk at most 1048576: NARROWER than '..Said'. Prove '..Said' where nothing that the law and all that it calls make is longer than what came in: it says more and counts as full. Else prove '..UptoSaid'. A law counts once. -/
mutual
def uptoBulk {H : Type} : DataW H → Nat
  | .lit (.string bytes) => bytes.length + 1
  | .lit _ => 1
  | .nil => 1
  | .ptr d => uptoBulk d + 1
  | .slice elems spare => uptoBulkAll elems + uptoBulkAll spare + 1
  | .agg parts => uptoBulkAll parts + 1
  | .iface _ d => uptoBulk d + 1
  | .map entries => uptoBulkEntries entries + 1
  | .held _ => 1
def uptoBulkAll {H : Type} : List (DataW H) → Nat
  | [] => 0
  | d :: r => uptoBulk d + uptoBulkAll r
def uptoBulkEntries {H : Type} : List (Lit × DataW H) → Nat
  | [] => 0
  | x :: r => uptoBulkEntry x + uptoBulkEntries r
def uptoBulkEntry {H : Type} : Lit × DataW H → Nat
  | (.string bytes, d) => bytes.length + uptoBulk d + 1
  | (_, d) => uptoBulk d + 1
 end
def uptoSmall : (H : Type) → List (DataW H) → Bool := fun _ ds => decide (uptoBulkAll ds ≤ 1048576)
def OpenSpec.upto (s : _root_.Go.ChangeSpec) : _root_.Go.OpenSpec := { _root_.Go.OpenSpec.ofChange s with cond := some uptoSmall }

/-- 'laws.FnExactSwapDays', WHERE WHAT IT READS IS OF BULK AT MOST 1048576: true; the input reads as it did. -/
def fnExactSwapDaysUptoRow : OpenClaim := { program := "ytoogoahoeocofaa", sum := "ecb96a6eca3685d2facb677cd20031492c7e134204104268a2c6d83db08b4297", func := "loop.example/g01405/laws.FnExactSwapDays", spec := "fnExactSwapDays", unfollowed := true, recurses := true, apart := false, narrowed := true }
def FnExactSwapDaysUptoSaid : Prop := fnExactSwapDaysUptoRow.holds Try.pinned (OpenSpec.upto fnExactSwapDaysSpec)

/-- 'laws.FnExactSeedDays', WHERE WHAT IT READS IS OF BULK AT MOST 1048576: true; the input reads as it did. -/
def fnExactSeedDaysUptoRow : OpenClaim := { program := "ytoogoahoeocofaa", sum := "ecb96a6eca3685d2facb677cd20031492c7e134204104268a2c6d83db08b4297", func := "loop.example/g01405/laws.FnExactSeedDays", spec := "fnExactSeedDays", unfollowed := true, recurses := true, apart := false, narrowed := true }
def FnExactSeedDaysUptoSaid : Prop := fnExactSeedDaysUptoRow.holds Try.pinned (OpenSpec.upto fnExactSeedDaysSpec)

/-- 'laws.FnExactLatePlan', WHERE WHAT IT READS IS OF BULK AT MOST 1048576: true; the input reads as it did. -/
def fnExactLatePlanUptoRow : OpenClaim := { program := "ytoogoahoeocofaa", sum := "ecb96a6eca3685d2facb677cd20031492c7e134204104268a2c6d83db08b4297", func := "loop.example/g01405/laws.FnExactLatePlan", spec := "fnExactLatePlan", unfollowed := true, recurses := true, apart := false, narrowed := true }
def FnExactLatePlanUptoSaid : Prop := fnExactLatePlanUptoRow.holds Try.pinned (OpenSpec.upto fnExactLatePlanSpec)

/-- 'laws.FnExactFirstTooLong', WHERE WHAT IT READS IS OF BULK AT MOST 1048576: true; the input reads as it did. -/
def fnExactFirstTooLongUptoRow : OpenClaim := { program := "ytoogoahoeocofaa", sum := "ecb96a6eca3685d2facb677cd20031492c7e134204104268a2c6d83db08b4297", func := "loop.example/g01405/laws.FnExactFirstTooLong", spec := "fnExactFirstTooLong", unfollowed := true, recurses := true, apart := false, narrowed := true }
def FnExactFirstTooLongUptoSaid : Prop := fnExactFirstTooLongUptoRow.holds Try.pinned (OpenSpec.upto fnExactFirstTooLongSpec)

/-- 'laws.FnExactClippingsOf', WHERE WHAT IT READS IS OF BULK AT MOST 1048576: true; the input reads as it did. -/
def fnExactClippingsOfUptoRow : OpenClaim := { program := "ytoogoahoeocofaa", sum := "ecb96a6eca3685d2facb677cd20031492c7e134204104268a2c6d83db08b4297", func := "loop.example/g01405/laws.FnExactClippingsOf", spec := "fnExactClippingsOf", unfollowed := true, recurses := true, apart := false, narrowed := true }
def FnExactClippingsOfUptoSaid : Prop := fnExactClippingsOfUptoRow.holds Try.pinned (OpenSpec.upto fnExactClippingsOfSpec)

/-- 'laws.FnExactHeightsOf', WHERE WHAT IT READS IS OF BULK AT MOST 1048576: true; the input reads as it did. -/
def fnExactHeightsOfUptoRow : OpenClaim := { program := "ytoogoahoeocofaa", sum := "ecb96a6eca3685d2facb677cd20031492c7e134204104268a2c6d83db08b4297", func := "loop.example/g01405/laws.FnExactHeightsOf", spec := "fnExactHeightsOf", unfollowed := true, recurses := true, apart := false, narrowed := true }
def FnExactHeightsOfUptoSaid : Prop := fnExactHeightsOfUptoRow.holds Try.pinned (OpenSpec.upto fnExactHeightsOfSpec)

end Rows
end Go.Proofs.Ytoogoahoeocofaa
