/- Plain laws: TurnsOf. -/
import Derived.Test.YtlhnjaaapnkgiaaWays
namespace Go.Proofs.Ytlhnjaaapnkgiaa.QR
set_option linter.unusedSimpArgs false
set_option linter.unusedVariables false
open Go.RowKit Go.Proofs.Ytlhnjaaapnkgiaa.B Go.Proofs.YtlhnjaaapnkgiaaW.PrintWords Go.Proofs.YtlhnjaaapnkgiaaW.PrintLast Go.Proofs.YtlhnjaaapnkgiaaW.PrintMore

theorem turns_loop (s : ByteArray) (hs : s.size ≤ 200) : ∀ (m i : Nat) (n : Int), i + m = s.size + 1 → 1 ≤ i → ∃ r, Evn (fun k => spec_TurnsOf.l0 k s n i) r ∧ Evn (fun k => impl_TurnsOf.l0 k s n i) r := by
  intro m
  induction m with
  | zero =>
    intro i n hi h1
    refine ⟨(n, 0), Evn.succ ?_, Evn.succ ?_⟩
    · simp only [spec_TurnsOf.l0]
      exact Evn.neg (by omega) (Evn.now _)
    · simp only [impl_TurnsOf.l0]
      exact Evn.neg (by omega) (Evn.now _)
  | succ m ih =>
    intro i n hi h1
    have w1 : wrap64 ((i : Int) + 1) = ((i + 1 : Nat) : Int) := by rw [wrap64_in (by omega) (by omega)]; omega
    have w2 : wrap64 ((i : Int) - 1) = (i : Int) - 1 := wrap64_in (by omega) (by omega)
    by_cases hlt : i < s.size
    · by_cases he : bt s i = bt s ((i : Int) - 1)
      · obtain ⟨r, e1, e2⟩ := ih (i + 1) n (by omega) (by omega)
        refine ⟨r, Evn.succ ?_, Evn.succ ?_⟩
        · simp only [spec_TurnsOf.l0, w1, w2]
          exact Evn.pos (by omega) (Evn.pos (by omega) (Evn.pos (by omega) (Evn.pos (by omega) (Evn.pos he e1))))
        · simp only [impl_TurnsOf.l0, w1, w2]
          exact Evn.pos (by omega) (Evn.pos (by omega) (Evn.pos (by omega) (Evn.pos (by omega) (Evn.pos he e2))))
      · obtain ⟨r, e1, e2⟩ := ih (i + 1) (wrap64 (n + 1)) (by omega) (by omega)
        refine ⟨r, Evn.succ ?_, Evn.succ ?_⟩
        · simp only [spec_TurnsOf.l0, w1, w2]
          exact Evn.pos (by omega) (Evn.pos (by omega) (Evn.pos (by omega) (Evn.pos (by omega) (Evn.neg he e1))))
        · simp only [impl_TurnsOf.l0, w1, w2]
          exact Evn.pos (by omega) (Evn.pos (by omega) (Evn.pos (by omega) (Evn.pos (by omega) (Evn.neg he e2))))
    · refine ⟨(n, 0), Evn.succ ?_, Evn.succ ?_⟩
      · simp only [spec_TurnsOf.l0]
        exact Evn.neg (by omega) (Evn.now _)
      · simp only [impl_TurnsOf.l0]
        exact Evn.neg (by omega) (Evn.now _)
theorem turnsOf (s : ByteArray) : ∃ k, laws_FnExactTurnsOf.f k s = some true := by
  refine Evn.ex ?_
  unfold laws_FnExactTurnsOf.f
  by_cases h : (s.size : Int) > 1048576
  · exact Evn.pos h (Evn.now _)
  refine Evn.neg h ?_
  obtain ⟨c, h1, h2, h3⟩ := way s
  have both : ∃ r q, Evn (fun k => spec_TurnsOf.f k s) (r, q) ∧ Evn (fun k => impl_TurnsOf.f k s) (r, q) := by
    unfold spec_TurnsOf.f impl_TurnsOf.f
    by_cases h0 : c = 0
    · obtain ⟨⟨r, q⟩, e1, e2⟩ := turns_loop s (h3 h0).1 s.size 1 0 (by omega) (by omega)
      exact ⟨r, q, Evn.bind h1 (Evn.pos h0 e1), Evn.bind h2 (Evn.pos h0 e2)⟩
    · exact ⟨0, c, Evn.bind h1 (Evn.neg h0 (Evn.now _)), Evn.bind h2 (Evn.neg h0 (Evn.now _))⟩
  obtain ⟨r, q, e1, e2⟩ := both
  exact Evn.bind e1 (Evn.bind e2 (Evn.pos rfl (Evn.pos rfl (Evn.now _))))
end Go.Proofs.Ytlhnjaaapnkgiaa.QR
namespace Go.Proofs.Ytlhnjaaapnkgiaa.Pure
open Go.RowKit Go.Proofs.Ytlhnjaaapnkgiaa.QR
theorem FnExactTurnsOf : laws_FnExactTurnsOf.Pure := fun s _ => turnsOf s
end Go.Proofs.Ytlhnjaaapnkgiaa.Pure
