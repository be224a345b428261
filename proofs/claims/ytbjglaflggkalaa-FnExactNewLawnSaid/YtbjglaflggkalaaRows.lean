/-
  No cell of these rows narrows 'for every input' (looked for: loops, veiled, ifaces, maps, wideKeys, modest, calm, conditions, laid).
  DERIVED. THE GIVEN ROWS OF THIS SEAT. 4 by the template 'for every input the law returns true; each argument reads behind the call as it read before'; 0 by the template 'total and deterministic' (their statements: YtbjglaflggkalaaTotals.lean).
  GIVEN WITH THE SEED: the statements are not yours to turn. If you find one false, say at which input.
  Laid BY PROGRAM, IN A SANDBOX (cutbox-rows.mjs): the forced cells as the released guide's own fill.sh prints them over the translation 7c0c475b3e3d2d98… (all of the seat's roots in one cut). By AI agents, Wed Nov 11 2026. No macro, syntax, notation, axiom, sorry.
-/
import Derived.Test.YtbjglaflggkalaaChecked
import GoSem.Claim
import GoSem.ClaimJoined
import GoSem.ClaimMapViews
import Derived.JoinedTies
import Derived.KernelRfl
namespace Go.Proofs.Ytbjglaflggkalaa
/- THE CELL 'sum', in the pinned program and in every row, IS THE sha256 OF THE DUMP (.gsa) THAT YtbjglaflggkalaaProg.lean LOADS. Nothing in Lean hashes anything: it is a label: what it is worth is what the hold of that sum in a sandbox is worth. -/
noncomputable def Try.pinned : Pinned := { name := "ytbjglaflggkalaa", sum := "7c0c475b3e3d2d9873f7e9b09aaa621397bcd580fcb2fd1a363a7703b46bb865", checked := Try.checked }
namespace Rows
def none {H : Type} : Left H := { results := [], args := [] }

/-- 'laws.FnExactNewLawn': WHATEVER THE INPUT: true; the input reads as it did. -/
def fnExactNewLawnSpec : ChangeSpec := { name := "fnExactNewLawn", fn := fun _ => fun
  | [d1, d2] => { results := [.lit (.bool true)], args := [d1, d2] }
  | _ => none }
def fnExactNewLawnRow : OpenClaim := { program := "ytbjglaflggkalaa", sum := "7c0c475b3e3d2d9873f7e9b09aaa621397bcd580fcb2fd1a363a7703b46bb865", func := "loop.example/g01405/laws.FnExactNewLawn", spec := "fnExactNewLawn", apart := false }
def FnExactNewLawnSaid : Prop := fnExactNewLawnRow.holds Try.pinned (OpenSpec.ofChange fnExactNewLawnSpec)

/-- ITS FALSE NEIGHBOUR: 'it returns false'. Refute it at one input. -/
def fnExactNewLawnWrong : ChangeSpec := { name := "fnExactNewLawn", fn := fun _ => fun
  | [d1, d2] => { results := [.lit (.bool false)], args := [d1, d2] }
  | _ => none }
def FnExactNewLawnWrongFalsely : Prop := fnExactNewLawnRow.holds Try.pinned (OpenSpec.ofChange fnExactNewLawnWrong)

/-- 'laws.FnExactValidLawn': WHATEVER THE INPUT: true; the input reads as it did. -/
def fnExactValidLawnSpec : ChangeSpec := { name := "fnExactValidLawn", fn := fun _ => fun
  | [d] => { results := [.lit (.bool true)], args := [d] }
  | _ => none }
def fnExactValidLawnRow : OpenClaim := { program := "ytbjglaflggkalaa", sum := "7c0c475b3e3d2d9873f7e9b09aaa621397bcd580fcb2fd1a363a7703b46bb865", func := "loop.example/g01405/laws.FnExactValidLawn", spec := "fnExactValidLawn", apart := false }
def FnExactValidLawnSaid : Prop := fnExactValidLawnRow.holds Try.pinned (OpenSpec.ofChange fnExactValidLawnSpec)

/-- ITS FALSE NEIGHBOUR: 'it returns false'. Refute it at one input. -/
def fnExactValidLawnWrong : ChangeSpec := { name := "fnExactValidLawn", fn := fun _ => fun
  | [d] => { results := [.lit (.bool false)], args := [d] }
  | _ => none }
def FnExactValidLawnWrongFalsely : Prop := fnExactValidLawnRow.holds Try.pinned (OpenSpec.ofChange fnExactValidLawnWrong)

/-- 'laws.FnExactKindAt': WHATEVER THE INPUT: true; the input reads as it did. -/
def fnExactKindAtSpec : ChangeSpec := { name := "fnExactKindAt", fn := fun _ => fun
  | [d1, d2] => { results := [.lit (.bool true)], args := [d1, d2] }
  | _ => none }
def fnExactKindAtRow : OpenClaim := { program := "ytbjglaflggkalaa", sum := "7c0c475b3e3d2d9873f7e9b09aaa621397bcd580fcb2fd1a363a7703b46bb865", func := "loop.example/g01405/laws.FnExactKindAt", spec := "fnExactKindAt", unfollowed := true, recurses := true, apart := false }
def FnExactKindAtSaid : Prop := fnExactKindAtRow.holds Try.pinned (OpenSpec.ofChange fnExactKindAtSpec)

/-- ITS FALSE NEIGHBOUR: 'it returns false'. Refute it at one input. -/
def fnExactKindAtWrong : ChangeSpec := { name := "fnExactKindAt", fn := fun _ => fun
  | [d1, d2] => { results := [.lit (.bool false)], args := [d1, d2] }
  | _ => none }
def FnExactKindAtWrongFalsely : Prop := fnExactKindAtRow.holds Try.pinned (OpenSpec.ofChange fnExactKindAtWrong)

/-- 'laws.FnExactSetCell': WHATEVER THE INPUT: true; the input reads as it did. -/
def fnExactSetCellSpec : ChangeSpec := { name := "fnExactSetCell", fn := fun _ => fun
  | [d1, d2, d3] => { results := [.lit (.bool true)], args := [d1, d2, d3] }
  | _ => none }
def fnExactSetCellRow : OpenClaim := { program := "ytbjglaflggkalaa", sum := "7c0c475b3e3d2d9873f7e9b09aaa621397bcd580fcb2fd1a363a7703b46bb865", func := "loop.example/g01405/laws.FnExactSetCell", spec := "fnExactSetCell", unfollowed := true, recurses := true, apart := false }
def FnExactSetCellSaid : Prop := fnExactSetCellRow.holds Try.pinned (OpenSpec.ofChange fnExactSetCellSpec)

/-- ITS FALSE NEIGHBOUR: 'it returns false'. Refute it at one input. -/
def fnExactSetCellWrong : ChangeSpec := { name := "fnExactSetCell", fn := fun _ => fun
  | [d1, d2, d3] => { results := [.lit (.bool false)], args := [d1, d2, d3] }
  | _ => none }
def FnExactSetCellWrongFalsely : Prop := fnExactSetCellRow.holds Try.pinned (OpenSpec.ofChange fnExactSetCellWrong)

/- THE SECOND FORM. 'bulk': how many values and letters a reading holds, each counted each time it is reached (what is shared counts as often as it is met; a slice's spare places count too). A statement '..UptoSaid' is the law's where the arguments, and the package variables that the reading takes, are together of bulk at most 1048576: NARROWER than '..Said'. Prove '..Said' where nothing that the law and all that it calls make is longer than what came in: it says more and counts as full. Else prove '..UptoSaid'. A law counts once. -/
mutual
def uptoBulk {H : Type} : DataW H → Nat
  | .lit (.string bytes) => bytes.length + 1
  | .lit _ => 1
  | .nil => 1
  | .ptr d => uptoBulk d + 1
  | .slice elems spare => uptoBulkAll elems + uptoBulkAll spare + 1
  | .agg parts => uptoBulkAll parts + 1
  | .iface _ d => uptoBulk d + 1
  | .map entries => uptoBulkEntries entries + 1
  | .held _ => 1
def uptoBulkAll {H : Type} : List (DataW H) → Nat
  | [] => 0
  | d :: r => uptoBulk d + uptoBulkAll r
def uptoBulkEntries {H : Type} : List (Lit × DataW H) → Nat
  | [] => 0
  | x :: r => uptoBulkEntry x + uptoBulkEntries r
def uptoBulkEntry {H : Type} : Lit × DataW H → Nat
  | (.string bytes, d) => bytes.length + uptoBulk d + 1
  | (_, d) => uptoBulk d + 1
 end
def uptoSmall : (H : Type) → List (DataW H) → Bool := fun _ ds => decide (uptoBulkAll ds ≤ 1048576)
def OpenSpec.upto (s : _root_.Go.ChangeSpec) : _root_.Go.OpenSpec := { _root_.Go.OpenSpec.ofChange s with cond := some uptoSmall }

/-- 'laws.FnExactNewLawn', WHERE WHAT IT READS IS OF BULK AT MOST 1048576: true; the input reads as it did. -/
def fnExactNewLawnUptoRow : OpenClaim := { program := "ytbjglaflggkalaa", sum := "7c0c475b3e3d2d9873f7e9b09aaa621397bcd580fcb2fd1a363a7703b46bb865", func := "loop.example/g01405/laws.FnExactNewLawn", spec := "fnExactNewLawn", apart := false, narrowed := true }
def FnExactNewLawnUptoSaid : Prop := fnExactNewLawnUptoRow.holds Try.pinned (OpenSpec.upto fnExactNewLawnSpec)

/-- 'laws.FnExactValidLawn', WHERE WHAT IT READS IS OF BULK AT MOST 1048576: true; the input reads as it did. -/
def fnExactValidLawnUptoRow : OpenClaim := { program := "ytbjglaflggkalaa", sum := "7c0c475b3e3d2d9873f7e9b09aaa621397bcd580fcb2fd1a363a7703b46bb865", func := "loop.example/g01405/laws.FnExactValidLawn", spec := "fnExactValidLawn", apart := false, narrowed := true }
def FnExactValidLawnUptoSaid : Prop := fnExactValidLawnUptoRow.holds Try.pinned (OpenSpec.upto fnExactValidLawnSpec)

/-- 'laws.FnExactKindAt', WHERE WHAT IT READS IS OF BULK AT MOST 1048576: true; the input reads as it did. -/
def fnExactKindAtUptoRow : OpenClaim := { program := "ytbjglaflggkalaa", sum := "7c0c475b3e3d2d9873f7e9b09aaa621397bcd580fcb2fd1a363a7703b46bb865", func := "loop.example/g01405/laws.FnExactKindAt", spec := "fnExactKindAt", unfollowed := true, recurses := true, apart := false, narrowed := true }
def FnExactKindAtUptoSaid : Prop := fnExactKindAtUptoRow.holds Try.pinned (OpenSpec.upto fnExactKindAtSpec)

/-- 'laws.FnExactSetCell', WHERE WHAT IT READS IS OF BULK AT MOST 1048576: true; the input reads as it did. -/
def fnExactSetCellUptoRow : OpenClaim := { program := "ytbjglaflggkalaa", sum := "7c0c475b3e3d2d9873f7e9b09aaa621397bcd580fcb2fd1a363a7703b46bb865", func := "loop.example/g01405/laws.FnExactSetCell", spec := "fnExactSetCell", unfollowed := true, recurses := true, apart := false, narrowed := true }
def FnExactSetCellUptoSaid : Prop := fnExactSetCellUptoRow.holds Try.pinned (OpenSpec.upto fnExactSetCellSpec)

end Rows
end Go.Proofs.Ytbjglaflggkalaa
