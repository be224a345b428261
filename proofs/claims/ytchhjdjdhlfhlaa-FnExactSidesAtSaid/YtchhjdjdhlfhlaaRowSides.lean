/- The law FnExactSidesAt holds for every input: the program and the reference tell the same sides of a cell, with the same code. No condition. -/
import Derived.Test.YtchhjdjdhlfhlaaRows
import Derived.Test.YtchhjdjdhlfhlaaLawSides
import Derived.Test.YtchhjdjdhlfhlaaOpen
import Derived.WalkKit
import Derived.ProofKit
import Derived.OpenShut
import Derived.ShutString
import Derived.ChangeOld
import Derived.Below
import Derived.SizedLaws
namespace Go.Proofs.Ytchhjdjdhlfhlaa.fnExactSidesAt
open Go.ChangeShapes Go.WideShapes Go.ChangeAt Go.RowKit Go.Proofs.Ytchhjdjdhlfhlaa.B Go.Proofs.Ytchhjdjdhlfhlaa.L
open Go.ChangeMaps (open_string shut_string)
set_option linter.unusedVariables false
set_option linter.unusedSimpArgs false
theorem own : ownKnob Try.prog.godebug = none := by kernel_rfl
theorem laid : laidOutB Try.prog = true := by kernel_rfl
set_option maxRecDepth 100000 in
set_option maxHeartbeats 1000000 in
theorem lifted (os : Os) (started : os.Started) (H : Type) (enc : TypeId × Value → H) :
    ReturnsInHanded {} Try.checked os 5 .any (Rows.fnExactSidesAtSpec.pre6 enc Try.prog Try.f5 Rows.fnExactSidesAtRow.domain false) (Rows.fnExactSidesAtSpec.post enc Try.prog Try.f5 false true false false) := by
  refine returnsInHanded_of_change_sized (C := Try.checked) own started (by kernel_rfl) Try.func5
    (ChangeSpec.witness6 (enc := enc) (C := Try.checked) false ⟨#[], #[.agg (Lw.cells ⟨0, 0, fun _ => 0⟩), .agg #[.int .i8 0, .int .i8 0]], []⟩ 8 (by kernel_rfl) (by kernel_rfl) (by kernel_rfl) (by kernel_rfl)) ?_
  intro W base args ds gs before hval0 hW hcnd hsz0 _
  have hsz : (DataW.weightsEach Try.prog (Try.f5.params.toList ++ Rows.fnExactSidesAtSpec.plain.varTypes Try.prog) (ds ++ gs)).all (· ≤ reachBytes) = true := hsz0
  have hval : ∀ (j : Nat) t v, Try.f5.params[j]? = some t → args[j]? = some v → Value.okWide Try.prog W .any base t v := hval0
  have hW' := hW
  obtain ⟨p, q, hA0, hV, rfl, hfz, hnd⟩ := hW
  have hA : DataW.TrodAll enc Try.prog W 0 (fun _ => true) true Try.f5.params.toList args.toList ds p := hA0
  rw [Try.params5] at hA hval hsz
  obtain ⟨v0, vs0, d0, ds0, p0, q0, hargs, rfl, rfl, h0, r0⟩ := trodAll_cons hA
  obtain ⟨v1, vs1, d1, ds1, p1, q1, rfl, rfl, rfl, h1, r1⟩ := trodAll_cons r0
  obtain ⟨rfl, rfl, rfl⟩ := trodAll_nil r1
  obtain rfl : args = #[v0, v1] := by cases args; simp_all
  obtain ⟨rfl, rfl⟩ := trodVars_none hV
  obtain ⟨L0, rfl, rfl, wa0, wb0, wc0⟩ := open_lawn (t8 := 22) (t27 := 24) Try.underlying26 (by kernel_rfl) Try.underlying22 Try.underlying24 Try.underlying23 Try.underlying5 (by kernel_rfl) (by kernel_rfl) (by kernel_rfl) (by kernel_rfl) (by kernel_rfl) (hval 0 26 v0 rfl rfl) h0
  have ok0 : Lw.Ok L0 := ⟨(wf_i8 wa0).1, (wf_i8 wa0).2, (wf_i8 wb0).1, (wf_i8 wb0).2, fun i hi => wf_u8 (wc0 i hi)⟩
  obtain ⟨x1, y1, rfl, rfl, wa1, wb1⟩ := open_pair (t0 := 22) (t1 := 22) Try.underlying39 (by kernel_rfl) Try.underlying22 Try.underlying22 (by kernel_rfl) (by kernel_rfl) (by kernel_rfl) (hval 1 39 v1 rfl rfl) h1
  have bx1 := wf_i8 wa1
  have by1 := wf_i8 wb1
  clear hA0 hval0 hsz0 hsz
  refine (lawSides L0 ok0 x1 y1 bx1 by1 W).mono fun e W' ⟨he, bel⟩ => ?_
  subst he
  exact ⟨_, rfl, _, _, _, [], _, [], hW', trodAll_mk1 (shut_bool Try.underlying4 _), (trodAll_cons_mk (Below.trod laid (by kernel_rfl) (of_decide_eq_true (by kernel_rfl)) h0 bel (fun x hx => by cases hx)) (trodAll_cons_mk (Below.trod laid (by kernel_rfl) (of_decide_eq_true (by kernel_rfl)) h1 bel (fun x hx => by cases hx)) trodAll_mk0)), rfl, bel.frame _, fun h => by cases h⟩
theorem over : Rows.fnExactSidesAtRow.holds Try.pinned (OpenSpec.ofChange Rows.fnExactSidesAtSpec) :=
  OpenClaim.holds_of_wide 5 Try.f5 rfl rfl rfl rfl rfl rfl rfl ⟨rfl, rfl, rfl, rfl, rfl⟩ rfl rfl rfl rfl rfl (by kernel_rfl) Try.func5 (by kernel_rfl)
    (of_decide_eq_true (by kernel_rfl)) (by unfold Func.isWrapper; first | (rw [if_pos (by decide +kernel)]; kernel_rfl) | (rw [if_neg (by decide +kernel)]; exact ⟨rfl, rfl⟩))
    (fun os started H enc _ => lifted os started H enc)
end Go.Proofs.Ytchhjdjdhlfhlaa.fnExactSidesAt
namespace Go.Proofs.Ytchhjdjdhlfhlaa
/-- The row, under a short name, for the claim. -/
theorem fnExactSidesAt_holds : Rows.FnExactSidesAtSaid := fnExactSidesAt.over
end Go.Proofs.Ytchhjdjdhlfhlaa
