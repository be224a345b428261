/- Plain laws: a memory of numbers under pairs: what the planner's map holds. -/
import Derived.Test.YtkebohpfneiimaaLeast
import Derived.Test.YtkebohpfneiimaaProg
import Derived.KernelRfl
import Derived.Maps.OwnSet
import Derived.Maps.Views
import Derived.WideKeyPair
namespace Go.Proofs.Ytkebohpfneiimaa.QM
set_option linter.unusedSimpArgs false
set_option linter.unusedVariables false
open Go Go.ChangeShapes Go.WideShapes

theorem arr2 : WideMaps.ArrKey Try.prog 61 2 2 := ⟨Try.underlying61, by kernel_rfl, by kernel_rfl, by kernel_rfl⟩
theorem arrK : Maps.Keyed Try.prog 61 := Maps.Keyed.of_law arr2.law
abbrev wfI (n : Int) : Prop := (Lit.int .i64 n).wf = true
def keyL (d h : Int) : Lit := .string (keyBytes [.int .i64 d, .int .i64 h])
theorem keyL_is {d h : Int} (wd : wfI d) (wh : wfI h) : keyOf Try.prog 61 (.agg #[.int .i64 d, .int .i64 h]) = some (keyL d h) :=
  WideMaps.keyOf_pair arr2 Try.underlying2 ⟨Try.prog.types.size - 1, by kernel_rfl⟩ wd wh
theorem keyL_inj {d h d2 h2 : Int} (wd : wfI d) (wh : wfI h) (wd2 : wfI d2) (wh2 : wfI h2) (e : keyL d h = keyL d2 h2) : d = d2 ∧ h = h2 := by
  have := arrK.inj (keyL_is wd wh) (e ▸ keyL_is wd2 wh2)
  simpa using this
/-- What it holds is true. -/
def Memo (cut most : Int) (gs : List Int) (D : DataW Unit) : Prop :=
  Maps.IsMap D ∧ ∀ d h : Int, wfI d → wfI h → Maps.has D (keyL d h) = true → D.atKey (keyL d h) (.lit (.int .i64 0)) = .lit (.int .i64 (leastP cut most (gs.drop d.toNat) h))
theorem Memo.none (cut most : Int) (gs : List Int) : Memo cut most gs (.map []) := ⟨Maps.isMap_empty, fun d h _ _ e => by simp [Maps.has] at e⟩
theorem Memo.put {cut most : Int} {gs : List Int} {D : DataW Unit} (M : Memo cut most gs D) {d h : Int} (wd : wfI d) (wh : wfI h) : Memo cut most gs (D.put (keyL d h) (.lit (.int .i64 (leastP cut most (gs.drop d.toNat) h)))) := by
  refine ⟨M.1.put _ _, fun d2 h2 wd2 wh2 e => ?_⟩
  by_cases hk : keyL d2 h2 = keyL d h
  · obtain ⟨rfl, rfl⟩ := keyL_inj wd2 wh2 wd wh hk
    exact Maps.atKey_put_same M.1 (show WideAt.IsKeyLit (.string _) from trivial) _ _
  · rw [Maps.atKey_put_other hk]
    rw [Maps.has_put_other hk] at e
    exact M.2 d2 h2 wd2 wh2 e
theorem Memo.read {cut most : Int} {gs : List Int} {D : DataW Unit} (M : Memo cut most gs D) {d h c : Int} (wd : wfI d) (wh : wfI h) (e : Maps.has D (keyL d h) = true) (hc : D.atKey (keyL d h) (.lit (.int .i64 0)) = .lit (.int .i64 c)) : c = leastP cut most (gs.drop d.toNat) h := by
  have := (M.2 d h wd wh e).symm.trans hc
  simpa using this.symm
end Go.Proofs.Ytkebohpfneiimaa.QM
