/- Plain laws: plans, and what is mown by them. -/
import Derived.Test.YtoogoahoeocofaaKPureF
import Derived.Test.YtoogoahoeocofaaKIntsF
import Derived.Test.YtoogoahoeocofaaKAskedF
import Derived.Test.YtoogoahoeocofaaKClipF
namespace Go.Proofs.Ytoogoahoeocofaa.QF
set_option linter.unusedSimpArgs false
set_option linter.unusedVariables false
open Go.RowKit Go.Proofs.Ytoogoahoeocofaa.B Go.Proofs.YtoogoahoeocofaaW.PrintWords Go.Proofs.YtoogoahoeocofaaW.PrintLast Go.Proofs.YtoogoahoeocofaaW.PrintMore

theorem within_is (a b c : Int) : impl_within.f a b c = some (decide (b ≤ a) && decide (a ≤ c)) := by
  unfold impl_within.f
  by_cases h : b ≤ a <;> simp [h]
theorem plan_loop (xs : List (S49)) (ps : List Int) (hx : xs.length ≤ 1048576) (hp : ps.length ≤ 1048576) : ∀ (n i : Nat), i + n = ps.length → ∃ b, Evn (fun k => spec_l03Plan.l0 k xs ps i) b ∧ Evn (fun k => impl_isPlan.l0 k xs ps ps (ps.length : Int) i) b := by
  intro n
  induction n with
  | zero =>
    intro i hi
    refine ⟨true, Evn.succ ?_, Evn.succ ?_⟩
    · simp only [spec_l03Plan.l0]
      exact Evn.neg (by omega) (Evn.now _)
    · simp only [impl_isPlan.l0]
      exact Evn.neg (by omega) (Evn.now _)
  | succ n ih =>
    intro i hi
    obtain ⟨b, h1, h2⟩ := ih (i + 1) (by omega)
    have w1 : wrap64 ((i : Int) + 1) = ((i + 1 : Nat) : Int) := by rw [wrap64_in (by omega) (by omega)]; omega
    have w2 : wrap64 ((i : Int) - 1) = (i : Int) - 1 := wrap64_in (by omega) (by omega)
    have w3 : wrap64 ((xs.length : Int) - 1) = (xs.length : Int) - 1 := wrap64_in (by omega) (by omega)
    by_cases hin : (decide (0 ≤ rd ps i) && decide (rd ps i ≤ (xs.length : Int) - 1)) = true
    · by_cases h0 : (i : Int) > 0
      · by_cases hle : rd ps i ≤ rd ps ((i : Int) - 1)
        · refine ⟨false, Evn.succ ?_, Evn.succ ?_⟩
          · simp only [spec_l03Plan.l0, in_is, Option.bind_some, w2, w3]
            exact Evn.pos (by omega) (Evn.pos (by omega) (Evn.pos hin (Evn.pos h0 (Evn.pos (by omega) (Evn.pos (by omega) (Evn.pos hle (Evn.now _)))))))
          · simp only [impl_isPlan.l0, within_is, Option.bind_some, w2, w3]
            exact Evn.pos (by omega) (Evn.pos (by omega) (Evn.pos (by omega) (Evn.pos hin (Evn.pos h0 (Evn.pos (by omega) (Evn.pos (by omega) (Evn.pos hle (Evn.now _))))))))
        · refine ⟨b, Evn.succ ?_, Evn.succ ?_⟩
          · simp only [spec_l03Plan.l0, in_is, Option.bind_some, w1, w2, w3]
            exact Evn.pos (by omega) (Evn.pos (by omega) (Evn.pos hin (Evn.pos h0 (Evn.pos (by omega) (Evn.pos (by omega) (Evn.neg hle h1))))))
          · simp only [impl_isPlan.l0, within_is, Option.bind_some, w1, w2, w3]
            exact Evn.pos (by omega) (Evn.pos (by omega) (Evn.pos (by omega) (Evn.pos hin (Evn.pos h0 (Evn.pos (by omega) (Evn.pos (by omega) (Evn.neg hle h2)))))))
      · refine ⟨b, Evn.succ ?_, Evn.succ ?_⟩
        · simp only [spec_l03Plan.l0, in_is, Option.bind_some, w1, w2, w3]
          exact Evn.pos (by omega) (Evn.pos (by omega) (Evn.pos hin (Evn.neg h0 h1)))
        · simp only [impl_isPlan.l0, within_is, Option.bind_some, w1, w2, w3]
          exact Evn.pos (by omega) (Evn.pos (by omega) (Evn.pos (by omega) (Evn.pos hin (Evn.neg h0 h2))))
    · refine ⟨false, Evn.succ ?_, Evn.succ ?_⟩
      · simp only [spec_l03Plan.l0, in_is, Option.bind_some, w2, w3]
        exact Evn.pos (by omega) (Evn.pos (by omega) (Evn.neg hin (Evn.now _)))
      · simp only [impl_isPlan.l0, within_is, Option.bind_some, w2, w3]
        exact Evn.pos (by omega) (Evn.pos (by omega) (Evn.pos (by omega) (Evn.neg hin (Evn.now _))))
theorem lens_any (l : List Int) (h : l.length ≤ 1048576) : lengths_any.f l = some (!(l.all clip_)) := by
  unfold lengths_any.f
  rw [if_pos (by omega)]
/-- The codes: where they tell 0 the days are fine and the lengths, too. -/
theorem codes (xs : List (S49)) (ps ls : List Int) (hx : xs.length ≤ 1048576) (hp : ps.length ≤ 1048576) (hl : ls.length ≤ 1048576) : ∃ c, Evn (fun k => spec_l03Planned.f k xs ps (ls.all clip_)) c ∧ Evn (fun k => impl_planCode.f k xs ps ls) c ∧ (c = 0 → Evn (fun k => spec_l03Ok.f k xs) true ∧ ls.all clip_ = true) := by
  obtain ⟨v, hv⟩ := ok xs hx
  have hi : Evn (fun k => impl_ValidWeather.f k xs) v := hv
  obtain ⟨b, p1, p2⟩ := plan_loop xs ps hx hp ps.length 0 (by omega)
  have himpl : Evn (fun k => impl_lengthsCode.f k xs ls) (if v then (if ls.all clip_ then 0 else 2) else 1) := by
    unfold impl_lengthsCode.f
    rw [lens_any _ hl]
    simp only [Option.bind_some]
    cases v with
    | false => exact Evn.bind hi (Evn.neg (by simp) (Evn.now _))
    | true =>
      refine Evn.bind hi (Evn.pos (by first | rfl | trivial) ?_)
      cases ls.all clip_ with
      | false => exact Evn.pos (by simp) (Evn.now _)
      | true => exact Evn.neg (by simp) (Evn.now _)
  have hs := asked hv (ls.all clip_)
  unfold spec_l03Planned.f impl_planCode.f
  have hzero : (if v then (if ls.all clip_ then (0 : Int) else 2) else 1) = 0 → v = true ∧ ls.all clip_ = true := by
    cases v <;> cases ls.all clip_ <;> simp
  generalize (if v then (if ls.all clip_ then (0 : Int) else 2) else 1) = code at himpl hs hzero
  by_cases h0 : code = 0
  · have hz := hzero h0
    have f1 : Evn (fun k => spec_l03Plan.f k xs ps) b := by unfold spec_l03Plan.f; exact p1
    have f2 : Evn (fun k => impl_isPlan.f k xs ps) b := by unfold impl_isPlan.f; exact p2
    cases b with
    | true => exact ⟨code, Evn.bind hs (Evn.pos h0 (Evn.bind f1 (Evn.pos rfl (Evn.now _)))), Evn.bind himpl (Evn.pos h0 (Evn.bind f2 (Evn.pos rfl (Evn.now _)))), fun _ => ⟨hz.1 ▸ hv, hz.2⟩⟩
    | false => exact ⟨4, Evn.bind hs (Evn.pos h0 (Evn.bind f1 (Evn.neg (by simp) (Evn.now _)))), Evn.bind himpl (Evn.pos h0 (Evn.bind f2 (Evn.neg (by simp) (Evn.now _)))), fun h => by omega⟩
  · exact ⟨code, Evn.bind hs (Evn.neg h0 (Evn.now _)), Evn.bind himpl (Evn.neg h0 (Evn.now _)), fun h => absurd h h0⟩
theorem has_loop (ps : List Int) (hp : ps.length ≤ 1048576) (d : Int) : ∀ (n i : Nat), i + n = ps.length → ∃ t, Evn (fun k => spec_l00Has.l0 k ps d i) (decide (t ≥ (0 : Int))) ∧ Evn (fun k => slices_Index_int64_int64.l0 k ps d (ps.length : Int) i) t := by
  intro n
  induction n with
  | zero =>
    intro i hi
    refine ⟨-1, Evn.succ ?_, Evn.succ ?_⟩
    · simp only [spec_l00Has.l0]
      exact Evn.neg (by omega) (Evn.now _)
    · simp only [slices_Index_int64_int64.l0]
      exact Evn.neg (by omega) (Evn.now _)
  | succ n ih =>
    intro i hi
    obtain ⟨t, h1, h2⟩ := ih (i + 1) (by omega)
    have w1 : wrap64 ((i : Int) + 1) = ((i + 1 : Nat) : Int) := by rw [wrap64_in (by omega) (by omega)]; omega
    by_cases he : rd ps i = d
    · refine ⟨i, Evn.succ ?_, Evn.succ ?_⟩
      · simp only [spec_l00Has.l0]
        refine Evn.pos (by omega) (Evn.pos (by omega) (Evn.pos he ?_))
        rw [decide_eq_true (show (i : Int) ≥ 0 by omega)]
        exact Evn.now _
      · simp only [slices_Index_int64_int64.l0]
        exact Evn.pos (by omega) (Evn.pos (by omega) (Evn.pos (by omega) (Evn.pos he.symm (Evn.now _))))
    · refine ⟨t, Evn.succ ?_, Evn.succ ?_⟩
      · simp only [spec_l00Has.l0, w1]
        exact Evn.pos (by omega) (Evn.pos (by omega) (Evn.neg he h1))
      · simp only [slices_Index_int64_int64.l0, w1]
        exact Evn.pos (by omega) (Evn.pos (by omega) (Evn.pos (by omega) (Evn.neg (fun e => he e.symm) h2)))
theorem has_both (ps : List Int) (hp : ps.length ≤ 1048576) (d : Int) : ∃ b, Evn (fun k => spec_l00Has.f k ps d) b ∧ Evn (fun k => slices_Contains_int64_int64.f k ps d) b := by
  obtain ⟨t, h1, h2⟩ := has_loop ps hp d ps.length 0 (by omega)
  refine ⟨decide (t ≥ 0), by unfold spec_l00Has.f; exact h1, ?_⟩
  unfold slices_Contains_int64_int64.f slices_Index_int64_int64.f
  exact Evn.bind h2 (Evn.now _)
theorem min_mn (a b : Int) : spec_l00Min.f a b = some (mn a b) := by
  unfold spec_l00Min.f mn
  by_cases h : a < b
  · rw [if_pos h]; congr 1; first | (rw [if_pos h]) | (split <;> omega) | omega
  · rw [if_neg h]; congr 1; first | (rw [if_neg h]) | (split <;> omega) | omega
/-- A fine day's growth. -/
theorem growth_in (x : S49) (hd : day_ x = true) : ∃ g, spec_l03Growth.f x.f0 x.f1 = some g ∧ 0 ≤ g ∧ g ≤ 24 := by
  unfold day_ at hd
  simp only [Bool.and_eq_true, decide_eq_true_eq] at hd
  obtain ⟨⟨a0, a1⟩, b0, b1⟩ := hd
  refine ⟨_, rfl, ?_⟩
  generalize wrap64 x.f0 = a at a0 a1
  generalize wrap64 x.f1 = b at b0 b1
  have ha : 0 ≤ a.tdiv 10 ∧ a.tdiv 10 ≤ 5 := by rw [Int.tdiv_eq_ediv_of_nonneg a0]; omega
  have hb : 0 ≤ b.tdiv 10 ∧ b.tdiv 10 ≤ 4 := by rw [Int.tdiv_eq_ediv_of_nonneg b0]; omega
  generalize a.tdiv 10 = u at ha
  generalize b.tdiv 10 = v at hb
  rw [wrap64_in (x := u) (by omega) (by omega), wrap64_in (x := v) (by omega) (by omega), wrap64_in (x := u + 1) (by omega) (by omega)]
  have h1 : 0 ≤ (u + 1) * v := Int.mul_nonneg (by omega) (by omega)
  have h2 : (u + 1) * v ≤ 6 * 4 := Int.mul_le_mul (by omega) (by omega) (by omega) (by omega)
  rw [wrap64_in (by omega) (by omega)]
  omega
theorem run_loop (xs : List (S49)) (ps : List Int) (hx : xs.length ≤ 30) (hp : ps.length ≤ 1048576) (cut : Int) (hc : 0 ≤ cut) (hc2 : cut ≤ 200) (hok : ∀ j : Int, 0 ≤ j → j < xs.length → day_ (rd_T49 xs j) = true) : ∀ (n i : Nat) (start : Int) (hs cs : List Int), i + n = xs.length → hs.length ≤ i → cs.length ≤ i → 0 ≤ start → start ≤ 200 + 24 * i →
    ∃ r q, Evn (fun k => spec_l03Run.l0 k start cut xs ps hs cs i) (r, q) ∧ Evn (fun k => impl_mown.l0 k start cut ps hs cs xs (xs.length : Int) i) (r, q) ∧ r.length ≤ xs.length ∧ q.length ≤ xs.length := by
  intro n
  induction n with
  | zero =>
    intro i start hs cs hi h1 h2 h3 h4
    refine ⟨hs, cs, Evn.succ ?_, Evn.succ ?_, by omega, by omega⟩
    · simp only [spec_l03Run.l0]
      exact Evn.neg (by omega) (Evn.now _)
    · simp only [impl_mown.l0]
      exact Evn.neg (by omega) (Evn.now _)
  | succ n ih =>
    intro i start hs cs hi h1 h2 h3 h4
    obtain ⟨g, hg, g0, g1⟩ := growth_in (rd_T49 xs i) (hok i (by omega) (by omega))
    have hg2 : impl_Weather_grows.f (rd_T49 xs i).f0 (rd_T49 xs i).f1 = some g := hg
    have w1 : wrap64 ((i : Int) + 1) = ((i + 1 : Nat) : Int) := by rw [wrap64_in (by omega) (by omega)]; omega
    obtain ⟨b, b1, b2⟩ := has_both ps hp i
    cases b with
    | true =>
      obtain ⟨m, hm, m0, m1, m2⟩ : ∃ m, m = mn start cut ∧ 0 ≤ m ∧ m ≤ 200 ∧ wrap64 (start - m) = mx (wrap64 (start - cut)) 0 := by
        refine ⟨mn start cut, rfl, ?_⟩
        rw [wrap64_in (x := start - cut) (by omega) (by omega)]
        rw [wrap64_in (x := start - mn start cut) (by unfold mn; split <;> omega) (by unfold mn; split <;> omega)]
        unfold mn mx
        refine ⟨by split <;> omega, by split <;> omega, ?_⟩
        repeat' split
        all_goals omega
      have w2 : wrap64 (m + g) = m + g := wrap64_in (by omega) (by omega)
      obtain ⟨r, q, e1, e2, e3, e4⟩ := ih (i + 1) (m + g) (hs ++ [m + g]) (cs ++ [wrap64 (start - m)]) (by omega) (by simp; omega) (by simp; omega) (by omega) (by omega)
      refine ⟨r, q, Evn.succ ?_, Evn.succ ?_, e3, e4⟩
      · simp only [spec_l03Run.l0, hg, min_mn, Option.bind_some, w1, ← hm, w2]
        exact Evn.pos (by omega) (Evn.bind b1 (Evn.pos rfl (Evn.pos (by omega) (Evn.pos (by omega) (Evn.pos (by omega) e1)))))
      · simp only [impl_mown.l0, hg2, Option.bind_some, w1, ← hm, w2]
        rw [m2] at e2
        exact Evn.pos (by omega) (Evn.pos (by omega) (Evn.pos (by omega) (Evn.bind b2 (Evn.pos rfl (Evn.pos (by omega) (Evn.pos (by omega) e2))))))
    | false =>
      have w2 : wrap64 (start + g) = start + g := wrap64_in (by omega) (by omega)
      obtain ⟨r, q, e1, e2, e3, e4⟩ := ih (i + 1) (start + g) (hs ++ [start + g]) cs (by omega) (by simp; omega) (by omega) (by omega) (by omega)
      refine ⟨r, q, Evn.succ ?_, Evn.succ ?_, e3, e4⟩
      · simp only [spec_l03Run.l0, hg, Option.bind_some, w1, w2]
        exact Evn.pos (by omega) (Evn.bind b1 (Evn.neg (by decide) (Evn.pos (by omega) (Evn.pos (by omega) e1))))
      · simp only [impl_mown.l0, hg2, Option.bind_some, w1, w2]
        exact Evn.pos (by omega) (Evn.pos (by omega) (Evn.pos (by omega) (Evn.bind b2 (Evn.neg (by decide) (Evn.pos (by omega) e2)))))
theorem run_both (xs : List (S49)) (ps : List Int) (start cut : Int) (hp : ps.length ≤ 1048576) (hs : clip_ start = true) (hc : clip_ cut = true) (hv : Evn (fun k => spec_l03Ok.f k xs) true) : ∃ r q, Evn (fun k => spec_l03Run.f k start cut xs ps) (r, q) ∧ Evn (fun k => impl_mown.f k start cut xs ps) (r, q) ∧ r.length ≤ 30 ∧ q.length ≤ 30 := by
  obtain ⟨h30, hday⟩ := ok_days hv
  unfold clip_ at hs hc
  simp only [Bool.and_eq_true, decide_eq_true_eq] at hs hc
  obtain ⟨r, q, e1, e2, e3, e4⟩ := run_loop xs ps (by omega) hp cut hc.1 hc.2 hday xs.length 0 start [] [] (by omega) (by simp) (by simp) hs.1 (by omega)
  exact ⟨r, q, by unfold spec_l03Run.f; exact e1, by unfold impl_mown.f; exact e2, by omega, by omega⟩
end Go.Proofs.Ytoogoahoeocofaa.QF
