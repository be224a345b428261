/- Plain laws: FirstTooLong. -/
import Derived.Test.YtoogoahoeocofaaKRunF
namespace Go.Proofs.Ytoogoahoeocofaa.QF
set_option linter.unusedSimpArgs false
set_option linter.unusedVariables false
open Go.RowKit Go.Proofs.Ytoogoahoeocofaa.B Go.Proofs.YtoogoahoeocofaaW.PrintWords Go.Proofs.YtoogoahoeocofaaW.PrintLast Go.Proofs.YtoogoahoeocofaaW.PrintMore

theorem first_loop (hs : List Int) (hl : hs.length ≤ 30) (most : Int) : ∀ (n i : Nat), i + n = hs.length → (∀ j : Nat, j < i → decide (most < rd hs j) = false) →
    Evn (fun k => spec_FirstTooLong.l0 k most hs i) (match hs.findIdx? (fun x => decide (most < x)) with | some j => ((j : Int), 0) | none => (0, 6)) := by
  intro n
  induction n with
  | zero =>
    intro i hi hh
    refine Evn.succ ?_
    simp only [spec_FirstTooLong.l0]
    refine Evn.neg (by omega) ?_
    have hf : hs.findIdx? (fun x => decide (most < x)) = none := by
      rw [List.findIdx?_eq_none_iff]
      intro x hx
      obtain ⟨j, hj, rfl⟩ := List.getElem_of_mem hx
      have := hh j (by omega)
      unfold rd at this
      rw [Int.toNat_natCast, List.getD_eq_getElem?_getD, List.getElem?_eq_getElem hj] at this
      exact this
    rw [hf]
    exact Evn.now _
  | succ n ih =>
    intro i hi hh
    refine Evn.succ ?_
    simp only [spec_FirstTooLong.l0]
    rw [wrap64_in (x := (i : Int) + 1) (by omega) (by omega)]
    by_cases hgt : rd hs i > most
    · refine Evn.pos (by omega) (Evn.pos (by omega) (Evn.pos hgt ?_))
      have hf : hs.findIdx? (fun x => decide (most < x)) = some i := by
        rw [List.findIdx?_eq_some_iff_getElem]
        refine ⟨by omega, ?_, fun j hj => ?_⟩
        · unfold rd at hgt
          rw [Int.toNat_natCast, List.getD_eq_getElem?_getD, List.getElem?_eq_getElem (by omega)] at hgt
          exact decide_eq_true hgt
        · have := hh j hj
          unfold rd at this
          rw [Int.toNat_natCast, List.getD_eq_getElem?_getD, List.getElem?_eq_getElem (by omega)] at this
          simp only [Option.getD_some] at this
          rw [this]; decide
      rw [hf]
      exact Evn.now _
    · refine Evn.pos (by omega) (Evn.pos (by omega) (Evn.neg hgt ?_))
      exact ih (i + 1) (by omega) (fun j hj => by
        by_cases e : j = i
        · rw [e]; exact decide_eq_false (by omega)
        · exact hh j (by omega))
theorem first_both (xs : List (S49)) (ps : List Int) (a b c : Int) (hl : xs.length ≤ 1048576) (hp : ps.length ≤ 1048576) : ∃ r q, Evn (fun k => spec_FirstTooLong.f k a b c xs ps) (r, q) ∧ Evn (fun k => impl_FirstTooLong.f k a b c xs ps) (r, q) := by
  obtain ⟨cd, h1, h2, h3⟩ := codes xs ps [a, b, c] hl hp (by simp)
  have e : List.all [a, b, c] clip_ = (clip_ a && clip_ b && clip_ c) := by simp [List.all, Bool.and_assoc]
  rw [e] at h1 h3
  have hspec : ∀ r, Evn (fun k => spec_FirstTooLong.j0 k a b c xs ps cd) r → Evn (fun k => spec_FirstTooLong.f k a b c xs ps) r := by
    intro r h
    unfold spec_FirstTooLong.f
    simp only [high_clip, Option.bind_some]
    cases ha : clip_ a with
    | false =>
      rw [ha] at h1
      exact Evn.neg (by simp) (Evn.bind (by simpa using h1) h)
    | true =>
      refine Evn.pos (by first | rfl | trivial) ?_
      cases hb : clip_ b with
      | false =>
        rw [ha, hb] at h1
        exact Evn.neg (by simp) (Evn.bind (by simpa using h1) h)
      | true =>
        rw [ha, hb] at h1
        exact Evn.pos (by first | rfl | trivial) (Evn.bind (by simpa using h1) h)
  by_cases h0 : cd = 0
  · obtain ⟨hv, hcl⟩ := h3 h0
    simp only [Bool.and_eq_true] at hcl
    obtain ⟨r, q, e1, e2, e3, e4⟩ := run_both xs ps a b hp hcl.1.1 hcl.1.2 hv
    have hloop := first_loop r e3 c r.length 0 (by omega) (fun j hj => by omega)
    cases hf : r.findIdx? (fun x => decide (c < x)) with
    | none =>
      rw [hf] at hloop
      have hover : over_index.f r c = some (-1) := by unfold over_index.f; rw [if_pos (by omega), hf]
      refine ⟨0, 6, hspec _ (Evn.succ ?_), ?_⟩
      · simp only [spec_FirstTooLong.j0]
        exact Evn.pos h0 (Evn.bind e1 hloop)
      · unfold impl_FirstTooLong.f
        refine Evn.bind h2 (Evn.pos h0 (Evn.bind e2 ?_))
        simp only [hover, Option.bind_some]
        exact Evn.pos (by omega) (Evn.now _)
    | some j =>
      rw [hf] at hloop
      have hover : over_index.f r c = some (j : Int) := by unfold over_index.f; rw [if_pos (by omega), hf]
      refine ⟨j, 0, hspec _ (Evn.succ ?_), ?_⟩
      · simp only [spec_FirstTooLong.j0]
        exact Evn.pos h0 (Evn.bind e1 hloop)
      · unfold impl_FirstTooLong.f
        refine Evn.bind h2 (Evn.pos h0 (Evn.bind e2 ?_))
        simp only [hover, Option.bind_some]
        exact Evn.neg (by omega) (Evn.now _)
  · refine ⟨0, cd, hspec _ (Evn.succ ?_), ?_⟩
    · simp only [spec_FirstTooLong.j0]
      exact Evn.neg h0 (Evn.now _)
    · unfold impl_FirstTooLong.f
      exact Evn.bind h2 (Evn.neg h0 (Evn.now _))
theorem first_law (xs : List (S51)) (ps : List Int) (a b c : Int) (hx : xs.length ≤ 140737488351232) : ∃ k, laws_FnExactFirstTooLong.f k a b c xs ps = some true := by
  refine Evn.ex ?_
  unfold laws_FnExactFirstTooLong.f
  by_cases hp0 : (ps.length : Int) > 1048576
  · exact Evn.pos hp0 (Evn.now _)
  refine Evn.neg hp0 ?_
  rw [sz xs 1048576 (by omega) (by omega) hx]
  simp only [Option.bind_some]
  by_cases h1 : (1048576 : Int) - xs.length < 0
  · rw [if_pos h1]
    exact Evn.pos (by omega) (Evn.now _)
  rw [if_neg h1]
  refine Evn.neg h1 ?_
  obtain ⟨t, ht, htl⟩ := toW xs (by omega)
  have hl : t.length ≤ 1048576 := by omega
  have hp : ps.length ≤ 1048576 := by omega
  have hu := toI ps hp
  obtain ⟨r, q, hs, hi⟩ := first_both t ps a b c hl hp
  refine Evn.bind ht (Evn.bind hu (Evn.bind hs (Evn.bind ht (Evn.bind hu (Evn.bind hi (Evn.pos rfl (Evn.succ ?_)))))))
  simp only [laws_FnExactFirstTooLong.j0, bne_self_eq_false]
  exact Evn.neg (by decide) (Evn.bind ht (Evn.bind (eqW t hl) (Evn.pos rfl (Evn.bind hu (Evn.bind (eqI ps hp) (Evn.pos rfl (Evn.now _)))))))
end Go.Proofs.Ytoogoahoeocofaa.QF
