/- Plain laws: ClippingsOf. -/
import Derived.Test.YtoogoahoeocofaaKRunH
namespace Go.Proofs.Ytoogoahoeocofaa.QH
set_option linter.unusedSimpArgs false
set_option linter.unusedVariables false
open Go.RowKit Go.Proofs.Ytoogoahoeocofaa.B Go.Proofs.YtoogoahoeocofaaW.PrintWords Go.Proofs.YtoogoahoeocofaaW.PrintLast Go.Proofs.YtoogoahoeocofaaW.PrintMore

theorem clippings_both (xs : List (S49)) (ps : List Int) (a b : Int) (hl : xs.length ≤ 1048576) (hp : ps.length ≤ 1048576) : ∃ r q, Evn (fun k => spec_ClippingsOf.f k a b xs ps) (r, q) ∧ Evn (fun k => impl_ClippingsOf.f k a b xs ps) (r, q) ∧ r.length ≤ 1048576 := by
  obtain ⟨c, h1, h2, h3⟩ := codes xs ps [a, b] hl hp (by simp)
  have e : List.all [a, b] clip_ = (clip_ a && clip_ b) := by simp [List.all]
  rw [e] at h1 h3
  have hspec : ∀ r, Evn (fun k => if c = 0 then (spec_l03Run.f k a b xs ps).bind fun bt => some (bt.2, 0) else some (([] : List Int), c)) r → Evn (fun k => spec_ClippingsOf.f k a b xs ps) r := by
    intro r h
    unfold spec_ClippingsOf.f
    simp only [high_clip, Option.bind_some]
    cases ha : clip_ a with
    | false =>
      rw [ha] at h1
      exact Evn.neg (by simp) (Evn.bind (by simpa using h1) h)
    | true =>
      rw [ha] at h1
      exact Evn.pos (by first | rfl | trivial) (Evn.bind (by simpa using h1) h)
  by_cases h0 : c = 0
  · obtain ⟨hv, hcl⟩ := h3 h0
    simp only [Bool.and_eq_true] at hcl
    obtain ⟨r, q, e1, e2, e3, e4⟩ := run_both xs ps a b hp hcl.1 hcl.2 hv
    refine ⟨q, 0, hspec _ (Evn.pos h0 (Evn.bind e1 (Evn.now _))), ?_, by omega⟩
    unfold impl_ClippingsOf.f
    exact Evn.bind h2 (Evn.pos h0 (Evn.bind e2 (Evn.now _)))
  · refine ⟨[], c, hspec _ (Evn.neg h0 (Evn.now _)), ?_, by simp⟩
    unfold impl_ClippingsOf.f
    exact Evn.bind h2 (Evn.neg h0 (Evn.now _))
theorem clippings_law (xs : List (S51)) (ps : List Int) (a b : Int) (hx : xs.length ≤ 140737488351232) : ∃ k, laws_FnExactClippingsOf.f k a b xs ps = some true := by
  refine Evn.ex ?_
  unfold laws_FnExactClippingsOf.f
  by_cases hp0 : (ps.length : Int) > 1048576
  · exact Evn.pos hp0 (Evn.now _)
  refine Evn.neg hp0 ?_
  rw [sz xs 1048576 (by omega) (by omega) hx]
  simp only [Option.bind_some]
  by_cases h1 : (1048576 : Int) - xs.length < 0
  · rw [if_pos h1]
    exact Evn.pos (by omega) (Evn.now _)
  rw [if_neg h1]
  refine Evn.neg h1 ?_
  obtain ⟨t, ht, htl⟩ := toW xs (by omega)
  have hl : t.length ≤ 1048576 := by omega
  have hp : ps.length ≤ 1048576 := by omega
  have hu := toI ps hp
  obtain ⟨r, q, hs, hi, hr⟩ := clippings_both t ps a b hl hp
  obtain ⟨ys, hm, hh⟩ := markI r hr
  obtain ⟨zs, m, hm2, hm0, hm1⟩ := markW3 t hl
  obtain ⟨us, m2, hm3, hm4⟩ := markN ps hp m hm0 hm1
  refine Evn.bind ht (Evn.bind hu (Evn.bind hs (Evn.bind ht (Evn.bind hu (Evn.bind hi (Evn.bind (eqI r hr) (Evn.pos rfl (Evn.succ ?_))))))))
  simp only [laws_FnExactClippingsOf.j0, bne_self_eq_false]
  refine Evn.neg (by decide) (Evn.bind ht (Evn.bind (eqW t hl) (Evn.pos rfl (Evn.bind hu (Evn.bind (eqI ps hp) (Evn.pos rfl (Evn.bind hm2 (Evn.bind hm3 (Evn.neg (by simp; omega) (Evn.bind (eqI r hr) (Evn.pos rfl (Evn.succ ?_))))))))))))
  simp only [laws_FnExactClippingsOf.j1]
  refine Evn.neg (by decide) (Evn.bind hm (Evn.bind hh (Evn.neg (by omega) (Evn.pos rfl (Evn.bind ht (Evn.bind hu (Evn.bind hi (Evn.bind (eqI r hr) (Evn.pos rfl (Evn.succ ?_))))))))))
  simp only [laws_FnExactClippingsOf.j2, bne_self_eq_false]
  exact Evn.neg (by decide) (Evn.bind hh (Evn.neg (by omega) (Evn.pos rfl (Evn.now _))))
end Go.Proofs.Ytoogoahoeocofaa.QH
