/-
  No cell of these rows narrows 'for every input' (looked for: loops, veiled, ifaces, maps, wideKeys, modest, calm, conditions, laid).
  DERIVED. THE GIVEN ROWS OF THIS SEAT. 6 by the template 'for every input the law returns true; each argument reads behind the call as it read before'; 0 by the template 'total and deterministic' (their statements: YtnncfoggpoimaaaTotals.lean).
  GIVEN WITH THE SEED: the statements are not yours to turn. If you find one false, say at which input.
  Laid BY PROGRAM, IN A SANDBOX (cutbox-rows.mjs): the forced cells as the released guide's own fill.sh prints them over the translation 7ed10e8275eb3470… (all of the seat's roots in one cut). By AI agents, Wed Nov 11 2026. No macro, syntax, notation, axiom, sorry.
-/
import Derived.Test.YtnncfoggpoimaaaChecked
import GoSem.Claim
import GoSem.ClaimJoined
import GoSem.ClaimMapViews
import Derived.JoinedTies
import Derived.KernelRfl
namespace Go.Proofs.Ytnncfoggpoimaaa
/- THE CELL 'sum', in the pinned program and in every row, IS THE sha256 OF THE DUMP (.gsa) THAT YtnncfoggpoimaaaProg.lean LOADS. Nothing in Lean hashes anything: it is a label: what it is worth is what the hold of that sum in a sandbox is worth. -/
noncomputable def Try.pinned : Pinned := { name := "ytnncfoggpoimaaa", sum := "7ed10e8275eb34709665ef44ff3c6c997c5b7ccf701434211c431715d01d17a5", checked := Try.checked }
namespace Rows
def none {H : Type} : Left H := { results := [], args := [] }

/-- 'laws.FnExactSameWeather': WHATEVER THE INPUT: true; the input reads as it did. -/
def fnExactSameWeatherSpec : ChangeSpec := { name := "fnExactSameWeather", fn := fun _ => fun
  | [d1, d2] => { results := [.lit (.bool true)], args := [d1, d2] }
  | _ => none }
def fnExactSameWeatherRow : OpenClaim := { program := "ytnncfoggpoimaaa", sum := "7ed10e8275eb34709665ef44ff3c6c997c5b7ccf701434211c431715d01d17a5", func := "loop.example/g01405/laws.FnExactSameWeather", spec := "fnExactSameWeather", apart := false }
def FnExactSameWeatherSaid : Prop := fnExactSameWeatherRow.holds Try.pinned (OpenSpec.ofChange fnExactSameWeatherSpec)

/-- ITS FALSE NEIGHBOUR: 'it returns false'. Refute it at one input. -/
def fnExactSameWeatherWrong : ChangeSpec := { name := "fnExactSameWeather", fn := fun _ => fun
  | [d1, d2] => { results := [.lit (.bool false)], args := [d1, d2] }
  | _ => none }
def FnExactSameWeatherWrongFalsely : Prop := fnExactSameWeatherRow.holds Try.pinned (OpenSpec.ofChange fnExactSameWeatherWrong)

/-- 'laws.FnExactValidWeather': WHATEVER THE INPUT: true; the input reads as it did. -/
def fnExactValidWeatherSpec : ChangeSpec := { name := "fnExactValidWeather", fn := fun _ => fun
  | [d] => { results := [.lit (.bool true)], args := [d] }
  | _ => none }
def fnExactValidWeatherRow : OpenClaim := { program := "ytnncfoggpoimaaa", sum := "7ed10e8275eb34709665ef44ff3c6c997c5b7ccf701434211c431715d01d17a5", func := "loop.example/g01405/laws.FnExactValidWeather", spec := "fnExactValidWeather", unfollowed := true, recurses := true, apart := false }
def FnExactValidWeatherSaid : Prop := fnExactValidWeatherRow.holds Try.pinned (OpenSpec.ofChange fnExactValidWeatherSpec)

/-- ITS FALSE NEIGHBOUR: 'it returns false'. Refute it at one input. -/
def fnExactValidWeatherWrong : ChangeSpec := { name := "fnExactValidWeather", fn := fun _ => fun
  | [d] => { results := [.lit (.bool false)], args := [d] }
  | _ => none }
def FnExactValidWeatherWrongFalsely : Prop := fnExactValidWeatherRow.holds Try.pinned (OpenSpec.ofChange fnExactValidWeatherWrong)

/-- 'laws.FnExactBoxesFor': WHATEVER THE INPUT: true; the input reads as it did. -/
def fnExactBoxesForSpec : ChangeSpec := { name := "fnExactBoxesFor", fn := fun _ => fun
  | [d1, d2, d3] => { results := [.lit (.bool true)], args := [d1, d2, d3] }
  | _ => none }
def fnExactBoxesForRow : OpenClaim := { program := "ytnncfoggpoimaaa", sum := "7ed10e8275eb34709665ef44ff3c6c997c5b7ccf701434211c431715d01d17a5", func := "loop.example/g01405/laws.FnExactBoxesFor", spec := "fnExactBoxesFor", unfollowed := true, recurses := true, apart := false }
def FnExactBoxesForSaid : Prop := fnExactBoxesForRow.holds Try.pinned (OpenSpec.ofChange fnExactBoxesForSpec)

/-- ITS FALSE NEIGHBOUR: 'it returns false'. Refute it at one input. -/
def fnExactBoxesForWrong : ChangeSpec := { name := "fnExactBoxesFor", fn := fun _ => fun
  | [d1, d2, d3] => { results := [.lit (.bool false)], args := [d1, d2, d3] }
  | _ => none }
def FnExactBoxesForWrongFalsely : Prop := fnExactBoxesForRow.holds Try.pinned (OpenSpec.ofChange fnExactBoxesForWrong)

/-- 'laws.FnExactGrowthAll': WHATEVER THE INPUT: true; the input reads as it did. -/
def fnExactGrowthAllSpec : ChangeSpec := { name := "fnExactGrowthAll", fn := fun _ => fun
  | [d] => { results := [.lit (.bool true)], args := [d] }
  | _ => none }
def fnExactGrowthAllRow : OpenClaim := { program := "ytnncfoggpoimaaa", sum := "7ed10e8275eb34709665ef44ff3c6c997c5b7ccf701434211c431715d01d17a5", func := "loop.example/g01405/laws.FnExactGrowthAll", spec := "fnExactGrowthAll", unfollowed := true, recurses := true, apart := false }
def FnExactGrowthAllSaid : Prop := fnExactGrowthAllRow.holds Try.pinned (OpenSpec.ofChange fnExactGrowthAllSpec)

/-- ITS FALSE NEIGHBOUR: 'it returns false'. Refute it at one input. -/
def fnExactGrowthAllWrong : ChangeSpec := { name := "fnExactGrowthAll", fn := fun _ => fun
  | [d] => { results := [.lit (.bool false)], args := [d] }
  | _ => none }
def FnExactGrowthAllWrongFalsely : Prop := fnExactGrowthAllRow.holds Try.pinned (OpenSpec.ofChange fnExactGrowthAllWrong)

/-- 'laws.FnExactDriestSpell': WHATEVER THE INPUT: true; the input reads as it did. -/
def fnExactDriestSpellSpec : ChangeSpec := { name := "fnExactDriestSpell", fn := fun _ => fun
  | [d] => { results := [.lit (.bool true)], args := [d] }
  | _ => none }
def fnExactDriestSpellRow : OpenClaim := { program := "ytnncfoggpoimaaa", sum := "7ed10e8275eb34709665ef44ff3c6c997c5b7ccf701434211c431715d01d17a5", func := "loop.example/g01405/laws.FnExactDriestSpell", spec := "fnExactDriestSpell", unfollowed := true, recurses := true, apart := false }
def FnExactDriestSpellSaid : Prop := fnExactDriestSpellRow.holds Try.pinned (OpenSpec.ofChange fnExactDriestSpellSpec)

/-- ITS FALSE NEIGHBOUR: 'it returns false'. Refute it at one input. -/
def fnExactDriestSpellWrong : ChangeSpec := { name := "fnExactDriestSpell", fn := fun _ => fun
  | [d] => { results := [.lit (.bool false)], args := [d] }
  | _ => none }
def FnExactDriestSpellWrongFalsely : Prop := fnExactDriestSpellRow.holds Try.pinned (OpenSpec.ofChange fnExactDriestSpellWrong)

/-- 'laws.FnExactWettestDays': WHATEVER THE INPUT: true; the input reads as it did. -/
def fnExactWettestDaysSpec : ChangeSpec := { name := "fnExactWettestDays", fn := fun _ => fun
  | [d1, d2] => { results := [.lit (.bool true)], args := [d1, d2] }
  | _ => none }
def fnExactWettestDaysRow : OpenClaim := { program := "ytnncfoggpoimaaa", sum := "7ed10e8275eb34709665ef44ff3c6c997c5b7ccf701434211c431715d01d17a5", func := "loop.example/g01405/laws.FnExactWettestDays", spec := "fnExactWettestDays", unfollowed := true, recurses := true, apart := false }
def FnExactWettestDaysSaid : Prop := fnExactWettestDaysRow.holds Try.pinned (OpenSpec.ofChange fnExactWettestDaysSpec)

/-- ITS FALSE NEIGHBOUR: 'it returns false'. Refute it at one input. -/
def fnExactWettestDaysWrong : ChangeSpec := { name := "fnExactWettestDays", fn := fun _ => fun
  | [d1, d2] => { results := [.lit (.bool false)], args := [d1, d2] }
  | _ => none }
def FnExactWettestDaysWrongFalsely : Prop := fnExactWettestDaysRow.holds Try.pinned (OpenSpec.ofChange fnExactWettestDaysWrong)

/- THE SECOND FORM. 'bulk': how many values and letters a reading holds, each counted each time it is reached (what is shared counts as often as it is met; a slice's spare places count too). A statement '..UptoSaid' is the law's where the arguments, and the package variables that the reading takes, are together of bulk at most 1048576: NARROWER than '..Said'. Prove '..Said' where nothing that the law and all that it calls make is longer than what came in: it says more and counts as full. Else prove '..UptoSaid'. A law counts once. -/
mutual
def uptoBulk {H : Type} : DataW H → Nat
  | .lit (.string bytes) => bytes.length + 1
  | .lit _ => 1
  | .nil => 1
  | .ptr d => uptoBulk d + 1
  | .slice elems spare => uptoBulkAll elems + uptoBulkAll spare + 1
  | .agg parts => uptoBulkAll parts + 1
  | .iface _ d => uptoBulk d + 1
  | .map entries => uptoBulkEntries entries + 1
  | .held _ => 1
def uptoBulkAll {H : Type} : List (DataW H) → Nat
  | [] => 0
  | d :: r => uptoBulk d + uptoBulkAll r
def uptoBulkEntries {H : Type} : List (Lit × DataW H) → Nat
  | [] => 0
  | x :: r => uptoBulkEntry x + uptoBulkEntries r
def uptoBulkEntry {H : Type} : Lit × DataW H → Nat
  | (.string bytes, d) => bytes.length + uptoBulk d + 1
  | (_, d) => uptoBulk d + 1
 end
def uptoSmall : (H : Type) → List (DataW H) → Bool := fun _ ds => decide (uptoBulkAll ds ≤ 1048576)
def OpenSpec.upto (s : _root_.Go.ChangeSpec) : _root_.Go.OpenSpec := { _root_.Go.OpenSpec.ofChange s with cond := some uptoSmall }

/-- 'laws.FnExactSameWeather', WHERE WHAT IT READS IS OF BULK AT MOST 1048576: true; the input reads as it did. -/
def fnExactSameWeatherUptoRow : OpenClaim := { program := "ytnncfoggpoimaaa", sum := "7ed10e8275eb34709665ef44ff3c6c997c5b7ccf701434211c431715d01d17a5", func := "loop.example/g01405/laws.FnExactSameWeather", spec := "fnExactSameWeather", apart := false, narrowed := true }
def FnExactSameWeatherUptoSaid : Prop := fnExactSameWeatherUptoRow.holds Try.pinned (OpenSpec.upto fnExactSameWeatherSpec)

/-- 'laws.FnExactValidWeather', WHERE WHAT IT READS IS OF BULK AT MOST 1048576: true; the input reads as it did. -/
def fnExactValidWeatherUptoRow : OpenClaim := { program := "ytnncfoggpoimaaa", sum := "7ed10e8275eb34709665ef44ff3c6c997c5b7ccf701434211c431715d01d17a5", func := "loop.example/g01405/laws.FnExactValidWeather", spec := "fnExactValidWeather", unfollowed := true, recurses := true, apart := false, narrowed := true }
def FnExactValidWeatherUptoSaid : Prop := fnExactValidWeatherUptoRow.holds Try.pinned (OpenSpec.upto fnExactValidWeatherSpec)

/-- 'laws.FnExactBoxesFor', WHERE WHAT IT READS IS OF BULK AT MOST 1048576: true; the input reads as it did. -/
def fnExactBoxesForUptoRow : OpenClaim := { program := "ytnncfoggpoimaaa", sum := "7ed10e8275eb34709665ef44ff3c6c997c5b7ccf701434211c431715d01d17a5", func := "loop.example/g01405/laws.FnExactBoxesFor", spec := "fnExactBoxesFor", unfollowed := true, recurses := true, apart := false, narrowed := true }
def FnExactBoxesForUptoSaid : Prop := fnExactBoxesForUptoRow.holds Try.pinned (OpenSpec.upto fnExactBoxesForSpec)

/-- 'laws.FnExactGrowthAll', WHERE WHAT IT READS IS OF BULK AT MOST 1048576: true; the input reads as it did. -/
def fnExactGrowthAllUptoRow : OpenClaim := { program := "ytnncfoggpoimaaa", sum := "7ed10e8275eb34709665ef44ff3c6c997c5b7ccf701434211c431715d01d17a5", func := "loop.example/g01405/laws.FnExactGrowthAll", spec := "fnExactGrowthAll", unfollowed := true, recurses := true, apart := false, narrowed := true }
def FnExactGrowthAllUptoSaid : Prop := fnExactGrowthAllUptoRow.holds Try.pinned (OpenSpec.upto fnExactGrowthAllSpec)

/-- 'laws.FnExactDriestSpell', WHERE WHAT IT READS IS OF BULK AT MOST 1048576: true; the input reads as it did. -/
def fnExactDriestSpellUptoRow : OpenClaim := { program := "ytnncfoggpoimaaa", sum := "7ed10e8275eb34709665ef44ff3c6c997c5b7ccf701434211c431715d01d17a5", func := "loop.example/g01405/laws.FnExactDriestSpell", spec := "fnExactDriestSpell", unfollowed := true, recurses := true, apart := false, narrowed := true }
def FnExactDriestSpellUptoSaid : Prop := fnExactDriestSpellUptoRow.holds Try.pinned (OpenSpec.upto fnExactDriestSpellSpec)

/-- 'laws.FnExactWettestDays', WHERE WHAT IT READS IS OF BULK AT MOST 1048576: true; the input reads as it did. -/
def fnExactWettestDaysUptoRow : OpenClaim := { program := "ytnncfoggpoimaaa", sum := "7ed10e8275eb34709665ef44ff3c6c997c5b7ccf701434211c431715d01d17a5", func := "loop.example/g01405/laws.FnExactWettestDays", spec := "fnExactWettestDays", unfollowed := true, recurses := true, apart := false, narrowed := true }
def FnExactWettestDaysUptoSaid : Prop := fnExactWettestDaysUptoRow.holds Try.pinned (OpenSpec.upto fnExactWettestDaysSpec)

end Rows
end Go.Proofs.Ytnncfoggpoimaaa
