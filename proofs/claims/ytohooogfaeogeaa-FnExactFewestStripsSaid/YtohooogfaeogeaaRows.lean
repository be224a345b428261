/-
  No cell of these rows narrows 'for every input' (looked for: loops, veiled, ifaces, maps, wideKeys, modest, calm, conditions, laid).
  DERIVED. THE GIVEN ROWS OF THIS SEAT. 2 by the template 'for every input the law returns true; each argument reads behind the call as it read before'; 0 by the template 'total and deterministic' (their statements: YtohooogfaeogeaaTotals.lean).
  GIVEN WITH THE SEED: the statements are not yours to turn. If you find one false, say at which input.
  Laid BY PROGRAM, IN A SANDBOX (cutbox-rows.mjs): the forced cells as the released guide's own fill.sh prints them over the translation b89a96fee5675387… (all of the seat's roots in one cut). By AI agents, Wed Nov 11 2026. No macro, syntax, notation, axiom, sorry.
-/
import Derived.Test.YtohooogfaeogeaaChecked
import GoSem.Claim
import GoSem.ClaimJoined
import GoSem.ClaimMapViews
import Derived.JoinedTies
import Derived.KernelRfl
namespace Go.Proofs.Ytohooogfaeogeaa
/- THE CELL 'sum', in the pinned program and in every row, IS THE sha256 OF THE DUMP (.gsa) THAT YtohooogfaeogeaaProg.lean LOADS. Nothing in Lean hashes anything: it is a label: what it is worth is what the hold of that sum in a sandbox is worth. -/
noncomputable def Try.pinned : Pinned := { name := "ytohooogfaeogeaa", sum := "b89a96fee56753876f6684734e046e2b635dbd613a495ce0eb63672aec7ccb7a", checked := Try.checked }
namespace Rows
def none {H : Type} : Left H := { results := [], args := [] }

/-- 'laws.FnExactCutStrips': WHATEVER THE INPUT: true; the input reads as it did. -/
def fnExactCutStripsSpec : ChangeSpec := { name := "fnExactCutStrips", fn := fun _ => fun
  | [d1, d2] => { results := [.lit (.bool true)], args := [d1, d2] }
  | _ => none }
def fnExactCutStripsRow : OpenClaim := { program := "ytohooogfaeogeaa", sum := "b89a96fee56753876f6684734e046e2b635dbd613a495ce0eb63672aec7ccb7a", func := "loop.example/g01405/laws.FnExactCutStrips", spec := "fnExactCutStrips", unfollowed := true, recurses := true, apart := false }
def FnExactCutStripsSaid : Prop := fnExactCutStripsRow.holds Try.pinned (OpenSpec.ofChange fnExactCutStripsSpec)

/-- ITS FALSE NEIGHBOUR: 'it returns false'. Refute it at one input. -/
def fnExactCutStripsWrong : ChangeSpec := { name := "fnExactCutStrips", fn := fun _ => fun
  | [d1, d2] => { results := [.lit (.bool false)], args := [d1, d2] }
  | _ => none }
def FnExactCutStripsWrongFalsely : Prop := fnExactCutStripsRow.holds Try.pinned (OpenSpec.ofChange fnExactCutStripsWrong)

/-- 'laws.FnExactFewestStrips': WHATEVER THE INPUT: true; the input reads as it did. -/
def fnExactFewestStripsSpec : ChangeSpec := { name := "fnExactFewestStrips", fn := fun _ => fun
  | [d1, d2] => { results := [.lit (.bool true)], args := [d1, d2] }
  | _ => none }
def fnExactFewestStripsRow : OpenClaim := { program := "ytohooogfaeogeaa", sum := "b89a96fee56753876f6684734e046e2b635dbd613a495ce0eb63672aec7ccb7a", func := "loop.example/g01405/laws.FnExactFewestStrips", spec := "fnExactFewestStrips", unfollowed := true, recurses := true, apart := false }
def FnExactFewestStripsSaid : Prop := fnExactFewestStripsRow.holds Try.pinned (OpenSpec.ofChange fnExactFewestStripsSpec)

/-- ITS FALSE NEIGHBOUR: 'it returns false'. Refute it at one input. -/
def fnExactFewestStripsWrong : ChangeSpec := { name := "fnExactFewestStrips", fn := fun _ => fun
  | [d1, d2] => { results := [.lit (.bool false)], args := [d1, d2] }
  | _ => none }
def FnExactFewestStripsWrongFalsely : Prop := fnExactFewestStripsRow.holds Try.pinned (OpenSpec.ofChange fnExactFewestStripsWrong)

/- THE SECOND FORM. 'bulk': how many values and letters a reading holds, each counted each time it is reached (what is shared counts as often as it is met; a slice's spare places count too). A statement '..UptoSaid' is the law's where the arguments, and the package variables that the reading takes, are together of bulk at most 1048576: NARROWER than '..Said'. Prove '..Said' where nothing that the law and all that it calls make is longer than what came in: it says more and counts as full. Else prove '..UptoSaid'. A law counts once. -/
mutual
def uptoBulk {H : Type} : DataW H → Nat
  | .lit (.string bytes) => bytes.length + 1
  | .lit _ => 1
  | .nil => 1
  | .ptr d => uptoBulk d + 1
  | .slice elems spare => uptoBulkAll elems + uptoBulkAll spare + 1
  | .agg parts => uptoBulkAll parts + 1
  | .iface _ d => uptoBulk d + 1
  | .map entries => uptoBulkEntries entries + 1
  | .held _ => 1
def uptoBulkAll {H : Type} : List (DataW H) → Nat
  | [] => 0
  | d :: r => uptoBulk d + uptoBulkAll r
def uptoBulkEntries {H : Type} : List (Lit × DataW H) → Nat
  | [] => 0
  | x :: r => uptoBulkEntry x + uptoBulkEntries r
def uptoBulkEntry {H : Type} : Lit × DataW H → Nat
  | (.string bytes, d) => bytes.length + uptoBulk d + 1
  | (_, d) => uptoBulk d + 1
 end
def uptoSmall : (H : Type) → List (DataW H) → Bool := fun _ ds => decide (uptoBulkAll ds ≤ 1048576)
def OpenSpec.upto (s : _root_.Go.ChangeSpec) : _root_.Go.OpenSpec := { _root_.Go.OpenSpec.ofChange s with cond := some uptoSmall }

/-- 'laws.FnExactCutStrips', WHERE WHAT IT READS IS OF BULK AT MOST 1048576: true; the input reads as it did. -/
def fnExactCutStripsUptoRow : OpenClaim := { program := "ytohooogfaeogeaa", sum := "b89a96fee56753876f6684734e046e2b635dbd613a495ce0eb63672aec7ccb7a", func := "loop.example/g01405/laws.FnExactCutStrips", spec := "fnExactCutStrips", unfollowed := true, recurses := true, apart := false, narrowed := true }
def FnExactCutStripsUptoSaid : Prop := fnExactCutStripsUptoRow.holds Try.pinned (OpenSpec.upto fnExactCutStripsSpec)

/-- 'laws.FnExactFewestStrips', WHERE WHAT IT READS IS OF BULK AT MOST 1048576: true; the input reads as it did. -/
def fnExactFewestStripsUptoRow : OpenClaim := { program := "ytohooogfaeogeaa", sum := "b89a96fee56753876f6684734e046e2b635dbd613a495ce0eb63672aec7ccb7a", func := "loop.example/g01405/laws.FnExactFewestStrips", spec := "fnExactFewestStrips", unfollowed := true, recurses := true, apart := false, narrowed := true }
def FnExactFewestStripsUptoSaid : Prop := fnExactFewestStripsUptoRow.holds Try.pinned (OpenSpec.upto fnExactFewestStripsSpec)

end Rows
end Go.Proofs.Ytohooogfaeogeaa
