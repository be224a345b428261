/- Plain laws: CutStrips. -/
import Derived.Test.YtohooogfaeogeaaNums
namespace Go.Proofs.Ytohooogfaeogeaa.QC
set_option linter.unusedSimpArgs false
set_option linter.unusedVariables false
open Go.RowKit Go.Proofs.Ytohooogfaeogeaa.B Go.Proofs.YtohooogfaeogeaaW.PrintWords Go.Proofs.YtohooogfaeogeaaW.PrintLast Go.Proofs.YtohooogfaeogeaaW.PrintMore

theorem line_is (n : Int) : spec_l05Line.f n = some (fine1_ n) := by
  unfold spec_l05Line.f spec_l00In.f fine1_
  by_cases h : 1 ≤ n
  · rw [if_pos h]; simp [h]
  · rw [if_neg h]; simp [h]
theorem drop_one (l : List Int) (i : Nat) (h : i < l.length) : l.drop i = rd l i :: l.drop (i + 1) := by
  rw [List.drop_eq_getElem_cons h]
  unfold rd
  rw [Int.toNat_natCast, List.getD_eq_getElem?_getD, List.getElem?_eq_getElem h]
  rfl
/-- The code. -/
def cutLow (l : List Int) (a : Int) : Int := if (8 : Int) < l.length then 3 else if l.all (fine2_ a) then 0 else 6
def cutCode (l : List Int) (a : Int) : Int := if fine1_ a && l.all fine1_ then cutLow l a else 2
theorem strip_is (l : List Int) (a : Int) (h : l.length ≤ 1048576) : impl_stripCode.f l a = some (cutCode l a) := by
  unfold impl_stripCode.f
  rw [if_pos (by omega)]
  rfl
theorem pieces_low (l : List Int) (a : Int) (hl : l.length ≤ 1048576) : ∀ (n i : Nat), i + n = l.length → Evn (fun k => spec_l05Pieces.l1 k l a i) (if (l.drop i).all (fine2_ a) then 0 else 6) := by
  intro n
  induction n with
  | zero =>
    intro i hi
    refine Evn.succ ?_
    simp only [spec_l05Pieces.l1]
    refine Evn.neg (by omega) ?_
    rw [List.drop_eq_nil_of_le (by omega)]
    exact Evn.now _
  | succ n ih =>
    intro i hi
    have w1 : wrap64 ((i : Int) + 1) = ((i + 1 : Nat) : Int) := by rw [wrap64_in (by omega) (by omega)]; omega
    have h1 := ih (i + 1) (by omega)
    refine Evn.succ ?_
    simp only [spec_l05Pieces.l1]
    refine Evn.pos (by omega) (Evn.pos (by omega) ?_)
    rw [drop_one l i (by omega), List.all_cons]
    by_cases h : rd l i > a
    · have hf : fine2_ a (rd l i) = false := by unfold fine2_; simp; omega
      rw [hf]
      exact Evn.pos h (Evn.now _)
    · have hf : fine2_ a (rd l i) = true := by unfold fine2_; simp; omega
      rw [hf, Bool.true_and]
      refine Evn.neg h ?_
      rw [w1]
      exact h1
theorem pieces_loop (l : List Int) (a : Int) (hl : l.length ≤ 1048576) : ∀ (n i : Nat) (b : Bool), i + n = l.length → Evn (fun k => spec_l05Pieces.l0 k l a b i) (if b && (l.drop i).all fine1_ then cutLow l a else 2) := by
  intro n
  induction n with
  | zero =>
    intro i b hi
    refine Evn.succ ?_
    simp only [spec_l05Pieces.l0]
    refine Evn.neg (by omega) ?_
    rw [List.drop_eq_nil_of_le (by omega)]
    cases b
    · exact Evn.neg (by simp) (Evn.now _)
    · refine Evn.pos rfl ?_
      unfold cutLow
      by_cases h8 : (8 : Int) < l.length
      · rw [if_pos h8]
        exact Evn.pos h8 (Evn.now _)
      · rw [if_neg h8]
        exact Evn.neg h8 (pieces_low l a hl l.length 0 (by omega))
  | succ n ih =>
    intro i b hi
    have w1 : wrap64 ((i : Int) + 1) = ((i + 1 : Nat) : Int) := by rw [wrap64_in (by omega) (by omega)]; omega
    refine Evn.succ ?_
    simp only [spec_l05Pieces.l0]
    refine Evn.pos (by omega) ?_
    rw [drop_one l i (by omega), List.all_cons, w1]
    cases b
    · exact Evn.neg (by simp) (ih (i + 1) false (by omega))
    · refine Evn.pos rfl (Evn.pos (by omega) (Evn.bind (Evn.of (line_is _)) ?_))
      exact ih (i + 1) _ (by omega)
theorem pieces (l : List Int) (a : Int) (hl : l.length ≤ 1048576) : Evn (fun k => spec_l05Pieces.f k l a) (cutCode l a) := by
  unfold spec_l05Pieces.f
  exact Evn.bind (Evn.of (line_is _)) (pieces_loop l a hl l.length 0 _ (by omega))
theorem cut_loop (l : List Int) (a : Int) (hl : l.length ≤ 1048576) : ∀ (n i : Nat) (acc : List Int) (c left : Int), i + n = l.length → acc.length = i →
    ∃ r q, r.length = l.length ∧ Evn (fun k => spec_CutStrips.l0 k l a acc c left i) (r, q, 0) ∧ Evn (fun k => impl_CutStrips.l0 k a acc left c l (l.length : Int) i) (r, q, 0) := by
  intro n
  induction n with
  | zero =>
    intro i acc c left hi ha
    refine ⟨acc, c, by omega, Evn.succ ?_, Evn.succ ?_⟩
    · simp only [spec_CutStrips.l0]
      exact Evn.neg (by omega) (Evn.now _)
    · simp only [impl_CutStrips.l0]
      exact Evn.neg (by omega) (Evn.now _)
  | succ n ih =>
    intro i acc c left hi ha
    have w1 : wrap64 ((i : Int) + 1) = ((i + 1 : Nat) : Int) := by rw [wrap64_in (by omega) (by omega)]; omega
    by_cases h : rd l i > left
    · obtain ⟨r, q, e0, e1, e2⟩ := ih (i + 1) (acc ++ [wrap64 (wrap64 (c + 1) - 1)]) (wrap64 (c + 1)) (wrap64 (a - rd l i)) (by omega) (by simp; omega)
      refine ⟨r, q, e0, Evn.succ ?_, Evn.succ ?_⟩
      · simp only [spec_CutStrips.l0, w1]
        exact Evn.pos (by omega) (Evn.pos (by omega) (Evn.pos h (Evn.pos (by omega) e1)))
      · simp only [impl_CutStrips.l0, w1]
        exact Evn.pos (by omega) (Evn.pos (by omega) (Evn.pos (by omega) (Evn.pos h (Evn.pos (by omega) e2))))
    · obtain ⟨r, q, e0, e1, e2⟩ := ih (i + 1) (acc ++ [wrap64 (c - 1)]) c (wrap64 (left - rd l i)) (by omega) (by simp; omega)
      refine ⟨r, q, e0, Evn.succ ?_, Evn.succ ?_⟩
      · simp only [spec_CutStrips.l0, w1]
        exact Evn.pos (by omega) (Evn.pos (by omega) (Evn.neg h (Evn.pos (by omega) e1)))
      · simp only [impl_CutStrips.l0, w1]
        exact Evn.pos (by omega) (Evn.pos (by omega) (Evn.pos (by omega) (Evn.neg h (Evn.pos (by omega) e2))))
theorem cut_both (l : List Int) (a : Int) (hl : l.length ≤ 1048576) : ∃ r q c, r.length ≤ 1048576 ∧ Evn (fun k => spec_CutStrips.f k l a) (r, q, c) ∧ Evn (fun k => impl_CutStrips.f k l a) (r, q, c) := by
  unfold spec_CutStrips.f impl_CutStrips.f
  have hp := pieces l a hl
  have hs := strip_is l a hl
  by_cases h0 : cutCode l a = 0
  · obtain ⟨r, q, e0, e1, e2⟩ := cut_loop l a hl l.length 0 [] 0 0 (by omega) rfl
    exact ⟨r, q, 0, by omega, Evn.bind hp (Evn.pos h0 e1), Evn.bind (Evn.of hs) (Evn.pos h0 e2)⟩
  · exact ⟨[], 0, cutCode l a, by simp, Evn.bind hp (Evn.neg h0 (Evn.now _)), Evn.bind (Evn.of hs) (Evn.neg h0 (Evn.now _))⟩
theorem cutStrips (l : List Int) (a : Int) : ∃ k, laws_FnExactCutStrips.f k l a = some true := by
  refine Evn.ex ?_
  unfold laws_FnExactCutStrips.f
  by_cases h : (l.length : Int) > 1048576
  · exact Evn.pos h (Evn.now _)
  refine Evn.neg h ?_
  have hl : l.length ≤ 1048576 := by omega
  obtain ⟨r, q, c, hr, e1, e2⟩ := cut_both l a hl
  have ht := toI l hl
  have hq := eqI r hr
  obtain ⟨ys, m1, m2⟩ := markI l hl
  obtain ⟨zs, z1, z2⟩ := markI r hr
  refine Evn.bind ht (Evn.bind e1 (Evn.bind ht (Evn.bind e2 (Evn.bind hq (Evn.pos rfl (Evn.pos rfl ?_))))))
  refine Evn.succ ?_
  simp only [laws_FnExactCutStrips.j0]
  refine Evn.neg (by simp) (Evn.bind ht (Evn.bind (eqI l hl) (Evn.pos (by simp) (Evn.bind m1 (Evn.neg (by simp; omega) (Evn.bind hq (Evn.pos (by simp) (Evn.pos (by simp) ?_))))))))
  refine Evn.succ ?_
  simp only [laws_FnExactCutStrips.j1]
  refine Evn.neg (by simp) (Evn.bind z1 (Evn.bind z2 (Evn.neg (by omega) (Evn.pos (by simp) (Evn.bind ht (Evn.bind e2 (Evn.bind hq (Evn.pos (by simp) (Evn.pos (by simp) ?_)))))))))
  refine Evn.succ ?_
  simp only [laws_FnExactCutStrips.j2]
  exact Evn.neg (by simp) (Evn.bind z2 (Evn.neg (by omega) (Evn.pos (by simp) (Evn.now _))))
end Go.Proofs.Ytohooogfaeogeaa.QC
namespace Go.Proofs.Ytohooogfaeogeaa.Pure
open Go.RowKit Go.Proofs.Ytohooogfaeogeaa.QC
theorem FnExactCutStrips : laws_FnExactCutStrips.Pure := fun l a _ _ _ _ => cutStrips l a
end Go.Proofs.Ytohooogfaeogeaa.Pure
