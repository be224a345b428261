/- Plain laws: LatePlan. -/
import Derived.Test.YtoogoahoeocofaaKPureL
import Derived.Test.YtoogoahoeocofaaKAskedL
import Derived.Test.YtoogoahoeocofaaKClipL
namespace Go.Proofs.Ytoogoahoeocofaa.QL
set_option linter.unusedSimpArgs false
set_option linter.unusedVariables false
open Go.RowKit Go.Proofs.Ytoogoahoeocofaa.B Go.Proofs.YtoogoahoeocofaaW.PrintWords Go.Proofs.YtoogoahoeocofaaW.PrintLast Go.Proofs.YtoogoahoeocofaaW.PrintMore

theorem min_mn (a b : Int) : spec_l00Min.f a b = some (mn a b) := by
  unfold spec_l00Min.f mn
  by_cases h : a < b
  · rw [if_pos h]; congr 1; first | (rw [if_pos h]) | (split <;> omega) | omega
  · rw [if_neg h]; congr 1; first | (rw [if_neg h]) | (split <;> omega) | omega
theorem late_loop (xs : List (S49)) (hl : xs.length ≤ 1048576) (cut most : Int) : ∀ (n i : Nat) (start : Int) (acc : List Int), i + n = xs.length → acc.length ≤ i →
    (∃ r, Evn (fun k => spec_l03Late.l0 k start cut most xs acc i) (r, true) ∧ Evn (fun k => impl_LatePlan.l0 k start cut most acc xs (xs.length : Int) i) (r, 0) ∧ r.length ≤ xs.length) ∨
    (Evn (fun k => spec_l03Late.l0 k start cut most xs acc i) ([], false) ∧ Evn (fun k => impl_LatePlan.l0 k start cut most acc xs (xs.length : Int) i) ([], 6)) := by
  intro n
  induction n with
  | zero =>
    intro i start acc hi ha
    refine Or.inl ⟨acc, Evn.succ ?_, Evn.succ ?_, by omega⟩
    · simp only [spec_l03Late.l0]
      exact Evn.neg (by omega) (Evn.now _)
    · simp only [impl_LatePlan.l0]
      exact Evn.neg (by omega) (Evn.now _)
  | succ n ih =>
    intro i start acc hi ha
    obtain ⟨g, hg⟩ : ∃ g, spec_l03Growth.f (rd_T49 xs i).f0 (rd_T49 xs i).f1 = some g := ⟨_, rfl⟩
    have hg2 : impl_Weather_grows.f (rd_T49 xs i).f0 (rd_T49 xs i).f1 = some g := hg
    have w1 : wrap64 ((i : Int) + 1) = ((i + 1 : Nat) : Int) := by rw [wrap64_in (by omega) (by omega)]; omega
    by_cases h1 : wrap64 (start + g) > most
    · by_cases h2 : wrap64 (mn start cut + g) > most
      · refine Or.inr ⟨Evn.succ ?_, Evn.succ ?_⟩
        · simp only [spec_l03Late.l0, hg, min_mn, Option.bind_some]
          exact Evn.pos (by omega) (Evn.pos (by omega) (Evn.pos h1 (Evn.pos (by omega) (Evn.pos h2 (Evn.now _)))))
        · simp only [impl_LatePlan.l0, hg2, Option.bind_some]
          exact Evn.pos (by omega) (Evn.pos (by omega) (Evn.pos (by omega) (Evn.pos h1 (Evn.pos (by omega) (Evn.pos h2 (Evn.now _))))))
      · have put : ∀ r q : List Int × Bool, True := fun _ _ => trivial
        rcases ih (i + 1) (wrap64 (mn start cut + g)) (acc ++ [(i : Int)]) (by omega) (by simp; omega) with ⟨r, e1, e2, e3⟩ | ⟨e1, e2⟩
        · refine Or.inl ⟨r, Evn.succ ?_, Evn.succ ?_, e3⟩
          · simp only [spec_l03Late.l0, hg, min_mn, Option.bind_some, w1]
            exact Evn.pos (by omega) (Evn.pos (by omega) (Evn.pos h1 (Evn.pos (by omega) (Evn.neg h2 e1))))
          · simp only [impl_LatePlan.l0, hg2, Option.bind_some, w1]
            exact Evn.pos (by omega) (Evn.pos (by omega) (Evn.pos (by omega) (Evn.pos h1 (Evn.pos (by omega) (Evn.neg h2 e2)))))
        · refine Or.inr ⟨Evn.succ ?_, Evn.succ ?_⟩
          · simp only [spec_l03Late.l0, hg, min_mn, Option.bind_some, w1]
            exact Evn.pos (by omega) (Evn.pos (by omega) (Evn.pos h1 (Evn.pos (by omega) (Evn.neg h2 e1))))
          · simp only [impl_LatePlan.l0, hg2, Option.bind_some, w1]
            exact Evn.pos (by omega) (Evn.pos (by omega) (Evn.pos (by omega) (Evn.pos h1 (Evn.pos (by omega) (Evn.neg h2 e2)))))
    · rcases ih (i + 1) (wrap64 (start + g)) acc (by omega) (by omega) with ⟨r, e1, e2, e3⟩ | ⟨e1, e2⟩
      · refine Or.inl ⟨r, Evn.succ ?_, Evn.succ ?_, e3⟩
        · simp only [spec_l03Late.l0, hg, min_mn, Option.bind_some, w1]
          exact Evn.pos (by omega) (Evn.pos (by omega) (Evn.neg h1 e1))
        · simp only [impl_LatePlan.l0, hg2, Option.bind_some, w1]
          exact Evn.pos (by omega) (Evn.pos (by omega) (Evn.pos (by omega) (Evn.neg h1 (Evn.neg h1 e2))))
      · refine Or.inr ⟨Evn.succ ?_, Evn.succ ?_⟩
        · simp only [spec_l03Late.l0, hg, min_mn, Option.bind_some, w1]
          exact Evn.pos (by omega) (Evn.pos (by omega) (Evn.neg h1 e1))
        · simp only [impl_LatePlan.l0, hg2, Option.bind_some, w1]
          exact Evn.pos (by omega) (Evn.pos (by omega) (Evn.pos (by omega) (Evn.neg h1 (Evn.neg h1 e2))))
theorem lens_any (l : List Int) (h : l.length ≤ 1048576) : lengths_any.f l = some (!(l.all clip_)) := by
  unfold lengths_any.f
  rw [if_pos (by omega)]
theorem late_both (xs : List (S49)) (a b c : Int) (hl : xs.length ≤ 1048576) : ∃ r q, Evn (fun k => spec_LatePlan.f k a b c xs) (r, q) ∧ Evn (fun k => impl_LatePlan.f k a b c xs) (r, q) ∧ r.length ≤ 1048576 := by
  obtain ⟨v, hv⟩ := ok xs hl
  have hi : Evn (fun k => impl_ValidWeather.f k xs) v := hv
  have hspec : ∀ r, Evn (fun k => spec_LatePlan.j0 k a b c xs (if v then (if (clip_ a && clip_ b && clip_ c) then 0 else 2) else 1)) r → Evn (fun k => spec_LatePlan.f k a b c xs) r := by
    intro r h
    unfold spec_LatePlan.f
    simp only [high_clip, Option.bind_some]
    cases ha : clip_ a with
    | false =>
      refine Evn.neg (by simp) (Evn.bind (asked hv false) ?_)
      rw [ha] at h
      simpa using h
    | true =>
      refine Evn.pos (by first | rfl | trivial) ?_
      cases hb : clip_ b with
      | false =>
        refine Evn.neg (by simp) (Evn.bind (asked hv false) ?_)
        rw [ha, hb] at h
        simpa using h
      | true =>
        refine Evn.pos (by first | rfl | trivial) (Evn.bind (asked hv (clip_ c)) ?_)
        rw [ha, hb] at h
        simpa using h
  have himpl : Evn (fun k => impl_lengthsCode.f k xs [a, b, c]) (if v then (if (clip_ a && clip_ b && clip_ c) then 0 else 2) else 1) := by
    unfold impl_lengthsCode.f
    rw [lens_any _ (by simp)]
    simp only [Option.bind_some]
    cases v with
    | false => exact Evn.bind hi (Evn.neg (by simp) (Evn.now _))
    | true =>
      refine Evn.bind hi (Evn.pos (by first | rfl | trivial) ?_)
      have e : List.all [a, b, c] clip_ = (clip_ a && clip_ b && clip_ c) := by simp [List.all, Bool.and_assoc]
      rw [e]
      cases (clip_ a && clip_ b && clip_ c) with
      | false => exact Evn.pos (by simp) (Evn.now _)
      | true => exact Evn.neg (by simp) (Evn.now _)
  generalize hcode : (if v then (if (clip_ a && clip_ b && clip_ c) then (0 : Int) else 2) else 1) = code at hspec himpl
  by_cases h0 : code = 0
  · subst h0
    rcases late_loop xs hl b c xs.length 0 a [] (by omega) (by simp) with ⟨r, e1, e2, e3⟩ | ⟨e1, e2⟩
    · refine ⟨r, 0, hspec _ (Evn.succ ?_), ?_, by omega⟩
      · simp only [spec_LatePlan.j0]
        refine Evn.pos (by first | rfl | trivial) (Evn.bind (a := (r, true)) ?_ (Evn.pos rfl (Evn.now _)))
        unfold spec_l03Late.f
        exact e1
      · unfold impl_LatePlan.f
        exact Evn.bind himpl (Evn.pos rfl e2)
    · refine ⟨[], 6, hspec _ (Evn.succ ?_), ?_, by simp⟩
      · simp only [spec_LatePlan.j0]
        refine Evn.pos (by first | rfl | trivial) (Evn.bind (a := ([], false)) ?_ (Evn.neg (by simp) (Evn.now _)))
        unfold spec_l03Late.f
        exact e1
      · unfold impl_LatePlan.f
        exact Evn.bind himpl (Evn.pos rfl e2)
  · refine ⟨[], code, hspec _ (Evn.succ ?_), ?_, by simp⟩
    · simp only [spec_LatePlan.j0]
      exact Evn.neg h0 (Evn.now _)
    · unfold impl_LatePlan.f
      exact Evn.bind himpl (Evn.neg h0 (Evn.now _))
theorem latePlan (xs : List (S51)) (a b c : Int) (hx : xs.length ≤ 140737488351232) : ∃ k, laws_FnExactLatePlan.f k a b c xs = some true := by
  refine Evn.ex ?_
  unfold laws_FnExactLatePlan.f
  rw [sz xs 1048576 (by omega) (by omega) hx]
  simp only [Option.bind_some]
  by_cases h1 : (1048576 : Int) - xs.length < 0
  · rw [if_pos h1]
    exact Evn.pos (by omega) (Evn.now _)
  rw [if_neg h1]
  refine Evn.neg h1 ?_
  obtain ⟨t, ht, htl⟩ := toW xs (by omega)
  have hl : t.length ≤ 1048576 := by omega
  obtain ⟨r, q, hs, hi, hr⟩ := late_both t a b c hl
  obtain ⟨ys, hm, hh⟩ := markI r hr
  obtain ⟨zs, m, hm2, hm0⟩ := markW t hl
  refine Evn.bind ht (Evn.bind hs (Evn.bind ht (Evn.bind hi (Evn.bind (eqI r hr) (Evn.pos rfl (Evn.succ ?_))))))
  simp only [laws_FnExactLatePlan.j0, bne_self_eq_false]
  refine Evn.neg (by decide) (Evn.bind ht (Evn.bind (eqW t hl) (Evn.pos rfl (Evn.bind hm2 (Evn.neg (by simp; omega) (Evn.bind (eqI r hr) (Evn.pos rfl (Evn.succ ?_))))))))
  simp only [laws_FnExactLatePlan.j1]
  refine Evn.neg (by decide) (Evn.bind hm (Evn.bind hh (Evn.neg (by omega) (Evn.pos rfl (Evn.bind ht (Evn.bind hi (Evn.bind (eqI r hr) (Evn.pos rfl (Evn.succ ?_)))))))))
  simp only [laws_FnExactLatePlan.j2, bne_self_eq_false]
  exact Evn.neg (by decide) (Evn.bind hh (Evn.neg (by omega) (Evn.pos rfl (Evn.now _))))
end Go.Proofs.Ytoogoahoeocofaa.QL
