/-
  No cell of these rows narrows 'for every input' (looked for: loops, veiled, ifaces, maps, wideKeys, modest, calm, conditions, laid).
  DERIVED. THE GIVEN ROWS OF THIS SEAT. 4 by the template 'for every input the law returns true; each argument reads behind the call as it read before'; 0 by the template 'total and deterministic' (their statements: YtefdnnjnmgnnpaaTotals.lean).
  GIVEN WITH THE SEED: the statements are not yours to turn. If you find one false, say at which input.
  Laid BY PROGRAM, IN A SANDBOX (cutbox-rows.mjs): the forced cells as the released guide's own fill.sh prints them over the translation 14b4166a4e2a2b28… (all of the seat's roots in one cut). By AI agents, Wed Nov 11 2026. No macro, syntax, notation, axiom, sorry.
-/
import Derived.Test.YtefdnnjnmgnnpaaChecked
import GoSem.Claim
import GoSem.ClaimJoined
import GoSem.ClaimMapViews
import Derived.JoinedTies
import Derived.KernelRfl
namespace Go.Proofs.Ytefdnnjnmgnnpaa
/- THE CELL 'sum', in the pinned program and in every row, IS THE sha256 OF THE DUMP (.gsa) THAT YtefdnnjnmgnnpaaProg.lean LOADS. Nothing in Lean hashes anything: it is a label: what it is worth is what the hold of that sum in a sandbox is worth. -/
noncomputable def Try.pinned : Pinned := { name := "ytefdnnjnmgnnpaa", sum := "14b4166a4e2a2b286f8348c12089423ec62e2d947b75298e7d5d1c6bd5d325b2", checked := Try.checked }
namespace Rows
def none {H : Type} : Left H := { results := [], args := [] }

/-- 'laws.FnExactLawnText': WHATEVER THE INPUT: true; the input reads as it did. -/
def fnExactLawnTextSpec : ChangeSpec := { name := "fnExactLawnText", fn := fun _ => fun
  | [d] => { results := [.lit (.bool true)], args := [d] }
  | _ => none }
def fnExactLawnTextRow : OpenClaim := { program := "ytefdnnjnmgnnpaa", sum := "14b4166a4e2a2b286f8348c12089423ec62e2d947b75298e7d5d1c6bd5d325b2", func := "loop.example/g01405/laws.FnExactLawnText", spec := "fnExactLawnText", unfollowed := true, recurses := true, apart := false }
def FnExactLawnTextSaid : Prop := fnExactLawnTextRow.holds Try.pinned (OpenSpec.ofChange fnExactLawnTextSpec)

/-- ITS FALSE NEIGHBOUR: 'it returns false'. Refute it at one input. -/
def fnExactLawnTextWrong : ChangeSpec := { name := "fnExactLawnText", fn := fun _ => fun
  | [d] => { results := [.lit (.bool false)], args := [d] }
  | _ => none }
def FnExactLawnTextWrongFalsely : Prop := fnExactLawnTextRow.holds Try.pinned (OpenSpec.ofChange fnExactLawnTextWrong)

/-- 'laws.FnExactTurnLawn': WHATEVER THE INPUT: true; the input reads as it did. -/
def fnExactTurnLawnSpec : ChangeSpec := { name := "fnExactTurnLawn", fn := fun _ => fun
  | [d] => { results := [.lit (.bool true)], args := [d] }
  | _ => none }
def fnExactTurnLawnRow : OpenClaim := { program := "ytefdnnjnmgnnpaa", sum := "14b4166a4e2a2b286f8348c12089423ec62e2d947b75298e7d5d1c6bd5d325b2", func := "loop.example/g01405/laws.FnExactTurnLawn", spec := "fnExactTurnLawn", unfollowed := true, recurses := true, apart := false }
def FnExactTurnLawnSaid : Prop := fnExactTurnLawnRow.holds Try.pinned (OpenSpec.ofChange fnExactTurnLawnSpec)

/-- ITS FALSE NEIGHBOUR: 'it returns false'. Refute it at one input. -/
def fnExactTurnLawnWrong : ChangeSpec := { name := "fnExactTurnLawn", fn := fun _ => fun
  | [d] => { results := [.lit (.bool false)], args := [d] }
  | _ => none }
def FnExactTurnLawnWrongFalsely : Prop := fnExactTurnLawnRow.holds Try.pinned (OpenSpec.ofChange fnExactTurnLawnWrong)

/-- 'laws.FnExactMirrorLawn': WHATEVER THE INPUT: true; the input reads as it did. -/
def fnExactMirrorLawnSpec : ChangeSpec := { name := "fnExactMirrorLawn", fn := fun _ => fun
  | [d] => { results := [.lit (.bool true)], args := [d] }
  | _ => none }
def fnExactMirrorLawnRow : OpenClaim := { program := "ytefdnnjnmgnnpaa", sum := "14b4166a4e2a2b286f8348c12089423ec62e2d947b75298e7d5d1c6bd5d325b2", func := "loop.example/g01405/laws.FnExactMirrorLawn", spec := "fnExactMirrorLawn", unfollowed := true, recurses := true, apart := false }
def FnExactMirrorLawnSaid : Prop := fnExactMirrorLawnRow.holds Try.pinned (OpenSpec.ofChange fnExactMirrorLawnSpec)

/-- ITS FALSE NEIGHBOUR: 'it returns false'. Refute it at one input. -/
def fnExactMirrorLawnWrong : ChangeSpec := { name := "fnExactMirrorLawn", fn := fun _ => fun
  | [d] => { results := [.lit (.bool false)], args := [d] }
  | _ => none }
def FnExactMirrorLawnWrongFalsely : Prop := fnExactMirrorLawnRow.holds Try.pinned (OpenSpec.ofChange fnExactMirrorLawnWrong)

/-- 'laws.FnExactCountKind': WHATEVER THE INPUT: true; the input reads as it did. -/
def fnExactCountKindSpec : ChangeSpec := { name := "fnExactCountKind", fn := fun _ => fun
  | [d1, d2] => { results := [.lit (.bool true)], args := [d1, d2] }
  | _ => none }
def fnExactCountKindRow : OpenClaim := { program := "ytefdnnjnmgnnpaa", sum := "14b4166a4e2a2b286f8348c12089423ec62e2d947b75298e7d5d1c6bd5d325b2", func := "loop.example/g01405/laws.FnExactCountKind", spec := "fnExactCountKind", unfollowed := true, recurses := true, apart := false }
def FnExactCountKindSaid : Prop := fnExactCountKindRow.holds Try.pinned (OpenSpec.ofChange fnExactCountKindSpec)

/-- ITS FALSE NEIGHBOUR: 'it returns false'. Refute it at one input. -/
def fnExactCountKindWrong : ChangeSpec := { name := "fnExactCountKind", fn := fun _ => fun
  | [d1, d2] => { results := [.lit (.bool false)], args := [d1, d2] }
  | _ => none }
def FnExactCountKindWrongFalsely : Prop := fnExactCountKindRow.holds Try.pinned (OpenSpec.ofChange fnExactCountKindWrong)

/- THE SECOND FORM. 'bulk': how many values and letters a reading holds, each counted each time it is reached (what is shared counts as often as it is met; a slice's spare places count too). A statement '..UptoSaid' is the law's where the arguments, and the package variables that the reading takes, are together of bulk at most 1048576: NARROWER than '..Said'. Prove '..Said' where nothing that the law and all that it calls make is longer than what came in: it says more and counts as full. Else prove '..UptoSaid'. A law counts once. -/
mutual
def uptoBulk {H : Type} : DataW H → Nat
  | .lit (.string bytes) => bytes.length + 1
  | .lit _ => 1
  | .nil => 1
  | .ptr d => uptoBulk d + 1
  | .slice elems spare => uptoBulkAll elems + uptoBulkAll spare + 1
  | .agg parts => uptoBulkAll parts + 1
  | .iface _ d => uptoBulk d + 1
  | .map entries => uptoBulkEntries entries + 1
  | .held _ => 1
def uptoBulkAll {H : Type} : List (DataW H) → Nat
  | [] => 0
  | d :: r => uptoBulk d + uptoBulkAll r
def uptoBulkEntries {H : Type} : List (Lit × DataW H) → Nat
  | [] => 0
  | x :: r => uptoBulkEntry x + uptoBulkEntries r
def uptoBulkEntry {H : Type} : Lit × DataW H → Nat
  | (.string bytes, d) => bytes.length + uptoBulk d + 1
  | (_, d) => uptoBulk d + 1
 end
def uptoSmall : (H : Type) → List (DataW H) → Bool := fun _ ds => decide (uptoBulkAll ds ≤ 1048576)
def OpenSpec.upto (s : _root_.Go.ChangeSpec) : _root_.Go.OpenSpec := { _root_.Go.OpenSpec.ofChange s with cond := some uptoSmall }

/-- 'laws.FnExactLawnText', WHERE WHAT IT READS IS OF BULK AT MOST 1048576: true; the input reads as it did. -/
def fnExactLawnTextUptoRow : OpenClaim := { program := "ytefdnnjnmgnnpaa", sum := "14b4166a4e2a2b286f8348c12089423ec62e2d947b75298e7d5d1c6bd5d325b2", func := "loop.example/g01405/laws.FnExactLawnText", spec := "fnExactLawnText", unfollowed := true, recurses := true, apart := false, narrowed := true }
def FnExactLawnTextUptoSaid : Prop := fnExactLawnTextUptoRow.holds Try.pinned (OpenSpec.upto fnExactLawnTextSpec)

/-- 'laws.FnExactTurnLawn', WHERE WHAT IT READS IS OF BULK AT MOST 1048576: true; the input reads as it did. -/
def fnExactTurnLawnUptoRow : OpenClaim := { program := "ytefdnnjnmgnnpaa", sum := "14b4166a4e2a2b286f8348c12089423ec62e2d947b75298e7d5d1c6bd5d325b2", func := "loop.example/g01405/laws.FnExactTurnLawn", spec := "fnExactTurnLawn", unfollowed := true, recurses := true, apart := false, narrowed := true }
def FnExactTurnLawnUptoSaid : Prop := fnExactTurnLawnUptoRow.holds Try.pinned (OpenSpec.upto fnExactTurnLawnSpec)

/-- 'laws.FnExactMirrorLawn', WHERE WHAT IT READS IS OF BULK AT MOST 1048576: true; the input reads as it did. -/
def fnExactMirrorLawnUptoRow : OpenClaim := { program := "ytefdnnjnmgnnpaa", sum := "14b4166a4e2a2b286f8348c12089423ec62e2d947b75298e7d5d1c6bd5d325b2", func := "loop.example/g01405/laws.FnExactMirrorLawn", spec := "fnExactMirrorLawn", unfollowed := true, recurses := true, apart := false, narrowed := true }
def FnExactMirrorLawnUptoSaid : Prop := fnExactMirrorLawnUptoRow.holds Try.pinned (OpenSpec.upto fnExactMirrorLawnSpec)

/-- 'laws.FnExactCountKind', WHERE WHAT IT READS IS OF BULK AT MOST 1048576: true; the input reads as it did. -/
def fnExactCountKindUptoRow : OpenClaim := { program := "ytefdnnjnmgnnpaa", sum := "14b4166a4e2a2b286f8348c12089423ec62e2d947b75298e7d5d1c6bd5d325b2", func := "loop.example/g01405/laws.FnExactCountKind", spec := "fnExactCountKind", unfollowed := true, recurses := true, apart := false, narrowed := true }
def FnExactCountKindUptoSaid : Prop := fnExactCountKindUptoRow.holds Try.pinned (OpenSpec.upto fnExactCountKindSpec)

end Rows
end Go.Proofs.Ytefdnnjnmgnnpaa
