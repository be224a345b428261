/- Plain laws: BoxesFor. -/
import Derived.Test.YtnncfoggpoimaaaWPure
import Derived.Test.YtnncfoggpoimaaaQWx5
import Derived.Test.YtnncfoggpoimaaaQWx6
namespace Go.Proofs.Ytnncfoggpoimaaa.QW
set_option linter.unusedSimpArgs false
set_option linter.unusedVariables false
open Go.RowKit Go.Proofs.Ytnncfoggpoimaaa.B Go.Proofs.YtnncfoggpoimaaaW.PrintWords Go.Proofs.YtnncfoggpoimaaaW.PrintLast Go.Proofs.YtnncfoggpoimaaaW.PrintMore

theorem high_clip (n : Int) : spec_l03High.f n = some (clip_ n) := by
  unfold spec_l03High.f spec_l00In.f clip_
  by_cases h1 : 0 ≤ n <;> by_cases h2 : n ≤ 200 <;> simp [h1, h2]
theorem all_rd {p : Int → Bool} {xs : List Int} : xs.all p = true ↔ ∀ j : Nat, j < xs.length → p (rd xs j) = true := by
  rw [List.all_eq_true]
  constructor
  · intro h j hj
    refine h _ ?_
    unfold rd
    rw [List.getD_eq_getElem?_getD, List.getElem?_eq_getElem (by simpa using hj)]
    exact List.getElem_mem _
  · intro h x hx
    obtain ⟨j, hj, rfl⟩ := List.getElem_of_mem hx
    have := h j hj
    unfold rd at this
    rw [List.getD_eq_getElem?_getD, List.getElem?_eq_getElem (by simpa using hj)] at this
    simpa using this
theorem box_loop (xs : List Int) (a b : Int) (hb : b ≠ 0) (hl : xs.length ≤ 30) : ∀ (n i : Nat) (acc : List Int), i + n = xs.length → acc.length ≤ i →
    ∃ r, Evn (fun k => spec_BoxesFor.l1 k xs a b acc i) (r, 0) ∧ Evn (fun k => impl_BoxesFor.l0 k a b acc xs (xs.length : Int) i) (r, 0) ∧ r.length ≤ xs.length := by
  intro n
  induction n with
  | zero =>
    intro i acc hi ha
    refine ⟨acc, Evn.succ ?_, Evn.succ ?_, by omega⟩
    · simp only [spec_BoxesFor.l1]
      exact Evn.neg (by omega) (Evn.now _)
    · simp only [impl_BoxesFor.l0]
      exact Evn.neg (by omega) (Evn.now _)
  | succ n ih =>
    intro i acc hi ha
    obtain ⟨r, h1, h2, h3⟩ := ih (i + 1) (acc ++ [wrap64 (Int.tdiv (wrap64 ((wrap64 ((wrap64 ((rd xs i) * a)) + b)) - 1)) b)]) (by omega) (by simp; omega)
    refine ⟨r, Evn.succ ?_, Evn.succ ?_, h3⟩
    · simp only [spec_BoxesFor.l1]
      refine Evn.pos (by omega) (Evn.pos (by omega) (Evn.neg hb (Evn.pos (by omega) ?_)))
      rw [wrap64_in (x := (i : Int) + 1) (by omega) (by omega)]
      simpa using h1
    · simp only [impl_BoxesFor.l0]
      refine Evn.pos (by omega) (Evn.pos (by omega) (Evn.pos (by omega) (Evn.neg hb (Evn.pos (by omega) ?_))))
      rw [wrap64_in (x := (i : Int) + 1) (by omega) (by omega)]
      simpa using h2
theorem fine_good (xs : List Int) (a b : Int) (hl : xs.length ≤ 1048576) (r : List Int × Int) (h : Evn (fun k => if (xs.length : Int) > 30 then some ([], 3) else spec_BoxesFor.l1 k xs a b [] 0) r) : ∀ (n i : Nat), i + n = xs.length → (∀ j : Nat, j < xs.length → clip_ (rd xs j) = true) →
    Evn (fun k => spec_BoxesFor.l0 k xs a b [] true i) r := by
  intro n
  induction n with
  | zero =>
    intro i hi hc
    refine Evn.succ ?_
    simp only [spec_BoxesFor.l0]
    exact Evn.neg (by omega) (Evn.pos (by first | trivial | rfl) h)
  | succ n ih =>
    intro i hi hc
    refine Evn.succ ?_
    simp only [spec_BoxesFor.l0, high_clip, hc i (by omega), Option.bind_some]
    refine Evn.pos (by omega) (Evn.pos (by first | trivial | rfl) (Evn.pos (by omega) ?_))
    rw [wrap64_in (by omega) (by omega)]
    simpa using ih (i + 1) (by omega) hc
theorem fine_bad (xs : List Int) (a b : Int) (hl : xs.length ≤ 1048576) : ∀ (n i : Nat) (f : Bool), i + n = xs.length → (f = false ∨ ∃ j : Nat, i ≤ j ∧ j < xs.length ∧ clip_ (rd xs j) = false) →
    Evn (fun k => spec_BoxesFor.l0 k xs a b [] f i) ([], 2) := by
  intro n
  induction n with
  | zero =>
    intro i f hi hc
    refine Evn.succ ?_
    rcases hc with rfl | ⟨j, j1, j2, _⟩
    · simp only [spec_BoxesFor.l0]
      exact Evn.neg (by omega) (Evn.neg (by decide) (Evn.now _))
    · omega
  | succ n ih =>
    intro i f hi hc
    refine Evn.succ ?_
    cases f with
    | false =>
      simp only [spec_BoxesFor.l0]
      refine Evn.pos (by omega) (Evn.neg (by decide) ?_)
      rw [wrap64_in (by omega) (by omega)]
      simpa using ih (i + 1) false (by omega) (Or.inl rfl)
    | true =>
      rcases hc with hc | ⟨j, j1, j2, j3⟩
      · cases hc
      simp only [spec_BoxesFor.l0, high_clip, Option.bind_some]
      refine Evn.pos (by omega) (Evn.pos (by first | trivial | rfl) (Evn.pos (by omega) ?_))
      rw [wrap64_in (by omega) (by omega)]
      have := ih (i + 1) (clip_ (rd xs i)) (by omega) (by
        by_cases e : j = i
        · subst e; exact Or.inl j3
        · exact Or.inr ⟨j, by omega, j2, j3⟩)
      simpa using this
theorem within_is (a b c : Int) : impl_within.f a b c = some (decide (b ≤ a) && decide (a ≤ c)) := by
  unfold impl_within.f
  by_cases h : b ≤ a <;> simp [h]
theorem in_is (a b c : Int) : spec_l00In.f a b c = some (decide (b ≤ a) && decide (a ≤ c)) := within_is a b c
theorem boxes_both (xs : List Int) (a b : Int) (hl : xs.length ≤ 1048576) : ∃ r q, Evn (fun k => spec_BoxesFor.f k xs a b) (r, q) ∧ Evn (fun k => impl_BoxesFor.f k xs a b) (r, q) ∧ r.length ≤ 1048576 := by
  unfold spec_BoxesFor.f impl_BoxesFor.f
  simp only [Option.bind_some, in_is, within_is]
  have hany : boxes_any.f xs = some (!(xs.all clip_)) := by unfold boxes_any.f; rw [if_pos (by omega)]
  rw [hany]
  simp only [Option.bind_some]
  cases hall : xs.all clip_ with
  | false =>
    have hex : ∃ j : Nat, 0 ≤ j ∧ j < xs.length ∧ clip_ (rd xs j) = false := by
      apply Classical.byContradiction
      intro hn
      have : xs.all clip_ = true := all_rd.2 (fun j hj => by
        cases hc : clip_ (rd xs j) with
        | true => rfl
        | false => exact absurd ⟨j, by omega, hj, hc⟩ hn)
      rw [hall] at this; cases this
    refine ⟨[], 2, ?_, ?_, by simp⟩
    · by_cases h1 : (decide (0 ≤ a) && decide (a ≤ 100)) = true
      · refine Evn.pos h1 ?_
        refine Evn.succ ?_
        simp only [spec_BoxesFor.j0]
        exact fine_bad xs a b hl xs.length 0 _ (by omega) (Or.inr hex)
      · refine Evn.neg h1 (Evn.succ ?_)
        simp only [spec_BoxesFor.j0]
        exact fine_bad xs a b hl xs.length 0 _ (by omega) (Or.inr hex)
    · refine Evn.pos rfl (Evn.succ ?_)
      simp only [impl_BoxesFor.j0]
      exact Evn.pos (by first | trivial | rfl) (Evn.now _)
  | true =>
    have hall2 := all_rd.1 hall
    by_cases h1 : (decide (0 ≤ a) && decide (a ≤ 100)) = true
    · by_cases h2 : (decide (1 ≤ b) && decide (b ≤ 10000)) = true
      · have hb : b ≠ 0 := by simp at h2; omega
        by_cases h3 : (xs.length : Int) > 30
        · refine ⟨[], 3, ?_, ?_, by simp⟩
          · refine Evn.pos h1 (Evn.succ ?_)
            simp only [spec_BoxesFor.j0, h2]
            exact fine_good xs a b hl _ (Evn.pos h3 (Evn.now _)) xs.length 0 (by omega) hall2
          · refine Evn.neg (by simp) (Evn.pos h1 (Evn.succ ?_))
            simp only [impl_BoxesFor.j0, h2]
            exact Evn.neg (by decide) (Evn.pos h3 (Evn.now _))
        · obtain ⟨r, q1, q2, q3⟩ := box_loop xs a b hb (by omega) xs.length 0 [] (by omega) (by simp)
          refine ⟨r, 0, ?_, ?_, by omega⟩
          · refine Evn.pos h1 (Evn.succ ?_)
            simp only [spec_BoxesFor.j0, h2]
            exact fine_good xs a b hl _ (Evn.neg h3 q1) xs.length 0 (by omega) hall2
          · refine Evn.neg (by simp) (Evn.pos h1 (Evn.succ ?_))
            simp only [impl_BoxesFor.j0, h2]
            exact Evn.neg (by decide) (Evn.neg h3 q2)
      · have h2' : (decide (1 ≤ b) && decide (b ≤ 10000)) = false := by simpa using h2
        refine ⟨[], 2, ?_, ?_, by simp⟩
        · refine Evn.pos h1 (Evn.succ ?_)
          simp only [spec_BoxesFor.j0, h2']
          exact fine_bad xs a b hl xs.length 0 _ (by omega) (Or.inl rfl)
        · refine Evn.neg (by simp) (Evn.pos h1 (Evn.succ ?_))
          simp only [impl_BoxesFor.j0, h2']
          exact Evn.pos rfl (Evn.now _)
    · refine ⟨[], 2, ?_, ?_, by simp⟩
      · refine Evn.neg h1 (Evn.succ ?_)
        simp only [spec_BoxesFor.j0]
        exact fine_bad xs a b hl xs.length 0 _ (by omega) (Or.inl rfl)
      · refine Evn.neg (by simp) (Evn.neg h1 (Evn.succ ?_))
        simp only [impl_BoxesFor.j0]
        exact Evn.pos (by first | trivial | rfl) (Evn.now _)
theorem boxesFor (xs : List Int) (a b : Int) : ∃ k, laws_FnExactBoxesFor.f k xs a b = some true := by
  refine Evn.ex ?_
  unfold laws_FnExactBoxesFor.f
  by_cases h1 : (xs.length : Int) > 1048576
  · exact Evn.pos h1 (Evn.now _)
  refine Evn.neg h1 ?_
  have hl : xs.length ≤ 1048576 := by omega
  have ht := toI xs hl
  obtain ⟨r, q, hs, hi, hr⟩ := boxes_both xs a b hl
  obtain ⟨ys, hm, hh⟩ := markI r hr
  obtain ⟨zs, hm2, _⟩ := markI xs hl
  refine Evn.bind ht (Evn.bind hs (Evn.bind ht (Evn.bind hi (Evn.bind (eqI r hr) (Evn.pos rfl (Evn.succ ?_))))))
  simp only [laws_FnExactBoxesFor.j0, bne_self_eq_false]
  refine Evn.neg (by decide) (Evn.bind ht (Evn.bind (eqI xs hl) (Evn.pos rfl (Evn.bind hm2 (Evn.neg (by simp; omega) (Evn.bind (eqI r hr) (Evn.pos rfl (Evn.succ ?_))))))))
  simp only [laws_FnExactBoxesFor.j1]
  refine Evn.neg (by decide) (Evn.bind hm (Evn.bind hh (Evn.neg (by omega) (Evn.pos rfl (Evn.bind ht (Evn.bind hi (Evn.bind (eqI r hr) (Evn.pos rfl (Evn.succ ?_)))))))))
  simp only [laws_FnExactBoxesFor.j2, bne_self_eq_false]
  exact Evn.neg (by decide) (Evn.bind hh (Evn.neg (by omega) (Evn.pos rfl (Evn.now _))))
end Go.Proofs.Ytnncfoggpoimaaa.QW
namespace Go.Proofs.Ytnncfoggpoimaaa.Pure
open Go.RowKit Go.Proofs.Ytnncfoggpoimaaa.QW
theorem FnExactBoxesFor : laws_FnExactBoxesFor.Pure := fun xs a b _ _ _ _ _ => boxesFor xs a b
end Go.Proofs.Ytnncfoggpoimaaa.Pure
