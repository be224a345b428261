/- Plain laws: SeedDays. -/
import Derived.Test.YtojknkdcpmhbfaaKPureS
import Derived.Test.YtojknkdcpmhbfaaKAskedS
namespace Go.Proofs.Ytojknkdcpmhbfaa.QS
set_option linter.unusedSimpArgs false
set_option linter.unusedVariables false
open Go.RowKit Go.Proofs.Ytojknkdcpmhbfaa.B Go.Proofs.YtojknkdcpmhbfaaW.PrintWords Go.Proofs.YtojknkdcpmhbfaaW.PrintLast Go.Proofs.YtojknkdcpmhbfaaW.PrintMore

/-- Are the first j days from d on all good? -/
def noneB (xs : List (S39)) (a b : Int) (d j : Nat) : Bool := (List.range j).all fun i => !poor_ a b (rd_T39 xs ((d + i : Nat) : Int))
theorem noneB_succ (xs : List (S39)) (a b : Int) (d j : Nat) : noneB xs a b d (j + 1) = (noneB xs a b d j && !poor_ a b (rd_T39 xs ((d + j : Nat) : Int))) := by
  unfold noneB
  rw [List.range_succ, List.all_append]
  simp
theorem any_cut (xs : List (S39)) (a b : Int) (d : Nat) : ∀ n, d + n ≤ xs.length → ((xs.take (d + n)).drop d).any (poor_ a b) = !noneB xs a b d n := by
  intro n
  induction n with
  | zero => intro h; rw [Nat.add_zero, List.drop_eq_nil_of_le (by rw [List.length_take]; omega)]; rfl
  | succ n ih =>
    intro h
    rw [noneB_succ, ← Nat.add_assoc, List.take_succ_eq_append_getElem (by omega), List.drop_append_of_le_length (by rw [List.length_take]; omega), List.any_append, ih (by omega)]
    have e : rd_T39 xs ((d + n : Nat) : Int) = xs[d + n] := by
      unfold rd_T39
      rw [Int.toNat_natCast, List.getD_eq_getElem?_getD, List.getElem?_eq_getElem (by omega)]
      rfl
    rw [e]
    simp
theorem seed_inner (xs : List (S39)) (hl : xs.length ≤ 1048576) (days rain warm : Int) (acc : List Int) (d : Nat) (hd : (d : Int) + days ≤ xs.length) (ha : acc.length ≤ d) (r : List Int × Int) : ∀ (n j : Nat), (j : Int) + n = days →
    Evn (fun k => spec_SeedDays.l0 k xs days rain warm (if noneB xs rain warm d days.toNat then acc ++ [(d : Int)] else acc) ((d + 1 : Nat) : Int)) r →
    Evn (fun k => spec_SeedDays.l1 k xs days rain warm acc d (noneB xs rain warm d j) j) r := by
  intro n
  induction n with
  | zero =>
    intro j hj h
    refine Evn.succ ?_
    simp only [spec_SeedDays.l1]
    refine Evn.neg (by omega) ?_
    rw [show days.toNat = j by omega] at h
    have w1 : wrap64 ((d : Int) + 1) = ((d + 1 : Nat) : Int) := by rw [wrap64_in (by omega) (by omega)]; omega
    rw [w1]
    cases hb : noneB xs rain warm d j with
    | true => rw [hb] at h; exact Evn.pos rfl (Evn.pos (by omega) h)
    | false => rw [hb] at h; exact Evn.neg (by decide) h
  | succ n ih =>
    intro j hj h
    have hn := ih (j + 1) (by omega) h
    refine Evn.succ ?_
    simp only [spec_SeedDays.l1]
    have w1 : wrap64 ((j : Int) + 1) = ((j + 1 : Nat) : Int) := by rw [wrap64_in (by omega) (by omega)]; omega
    have w2 : wrap64 ((d : Int) + j) = ((d + j : Nat) : Int) := by rw [wrap64_in (by omega) (by omega)]; omega
    rw [w1, w2]
    refine Evn.pos (by omega) (Evn.pos (by omega) (Evn.pos (by omega) ?_))
    rw [noneB_succ] at hn
    cases hb : noneB xs rain warm d j with
    | false => rw [hb] at hn; exact Evn.neg (by decide) hn
    | true =>
      rw [hb] at hn
      refine Evn.pos rfl ?_
      unfold poor_ at hn
      by_cases h1 : wrap64 (rd_T39 xs ((d + j : Nat) : Int)).f0 ≥ rain
      · refine Evn.pos h1 ?_
        rw [decide_eq_false (show ¬ wrap64 (rd_T39 xs ((d + j : Nat) : Int)).f0 < rain by omega)] at hn
        have e : (true && !(false || decide (wrap64 (rd_T39 xs ((d + j : Nat) : Int)).f1 < warm))) = decide (wrap64 (rd_T39 xs ((d + j : Nat) : Int)).f1 ≥ warm) := by
          by_cases h2 : wrap64 (rd_T39 xs ((d + j : Nat) : Int)).f1 < warm
          · rw [decide_eq_true h2, decide_eq_false (by omega)]; rfl
          · rw [decide_eq_false h2, decide_eq_true (by omega)]; rfl
        rw [e] at hn
        exact hn
      · refine Evn.neg h1 ?_
        rw [decide_eq_true (show wrap64 (rd_T39 xs ((d + j : Nat) : Int)).f0 < rain by omega)] at hn
        exact hn
theorem seed_loop (xs : List (S39)) (hl : xs.length ≤ 1048576) (days rain warm : Int) (h1 : 1 ≤ days) (h2 : days ≤ 30) : ∀ (n d : Nat) (acc : List Int), d + n = xs.length + 1 → acc.length ≤ d → acc.length ≤ xs.length →
    ∃ r, Evn (fun k => spec_SeedDays.l0 k xs days rain warm acc d) (r, 0) ∧ Evn (fun k => impl_SeedDays.l0 k xs days rain warm acc d) (r, 0) ∧ r.length ≤ 1048576 := by
  intro n
  induction n with
  | zero =>
    intro d acc hd ha hb0
    refine ⟨acc, Evn.succ ?_, Evn.succ ?_, by omega⟩
    · simp only [spec_SeedDays.l0]
      rw [wrap64_in (x := (d : Int) + days) (by omega) (by omega)]
      exact Evn.neg (by omega) (Evn.now _)
    · simp only [impl_SeedDays.l0]
      rw [wrap64_in (x := (d : Int) + days) (by omega) (by omega)]
      exact Evn.neg (by omega) (Evn.now _)
  | succ n ih =>
    intro d acc hd ha hb0
    have w0 : wrap64 ((d : Int) + days) = (d : Int) + days := wrap64_in (by omega) (by omega)
    have w1 : wrap64 ((d : Int) + 1) = ((d + 1 : Nat) : Int) := by rw [wrap64_in (by omega) (by omega)]; omega
    by_cases hc : (d : Int) + days ≤ xs.length
    · obtain ⟨r, e1, e2, e3⟩ := ih (d + 1) (if noneB xs rain warm d days.toNat then acc ++ [(d : Int)] else acc) (by omega) (by split <;> (try simp) <;> omega) (by split <;> (try simp) <;> omega)
      refine ⟨r, Evn.succ ?_, Evn.succ ?_, e3⟩
      · simp only [spec_SeedDays.l0]
        rw [w0]
        refine Evn.pos hc ?_
        exact seed_inner xs hl days rain warm acc d hc ha (r, 0) days.toNat 0 (by omega) e1
      · simp only [impl_SeedDays.l0]
        rw [w0, w1]
        refine Evn.pos hc (Evn.pos (by omega) (Evn.pos (by omega) ?_))
        have e : seed_any.f ((xs.take ((d : Int) + days).toNat).drop ((d : Nat) : Int).toNat) rain warm = some (!noneB xs rain warm d days.toNat) := by
          unfold seed_any.f
          rw [show ((d : Int) + days).toNat = d + days.toNat by omega, Int.toNat_natCast, if_pos (by rw [List.length_drop, List.length_take]; omega), any_cut _ _ _ _ _ (by omega)]
        rw [e]
        simp only [Option.bind_some]
        cases hb : noneB xs rain warm d days.toNat with
        | true => rw [hb] at e2; exact Evn.neg (by decide) (Evn.pos (by omega) e2)
        | false => rw [hb] at e2; exact Evn.pos rfl e2
    · refine ⟨acc, Evn.succ ?_, Evn.succ ?_, by omega⟩
      · simp only [spec_SeedDays.l0]
        rw [w0]
        exact Evn.neg hc (Evn.now _)
      · simp only [impl_SeedDays.l0]
        rw [w0]
        exact Evn.neg hc (Evn.now _)
theorem within_is (a b c : Int) : impl_within.f a b c = some (decide (b ≤ a) && decide (a ≤ c)) := by
  unfold impl_within.f
  by_cases h : b ≤ a <;> simp [h]
theorem span_is (a : Int) : spec_l03Span.f a = some (decide (1 ≤ a) && decide (a ≤ 30)) := by
  unfold spec_l03Span.f
  rw [in_is]; rfl
theorem seed_both (xs : List (S39)) (a b c : Int) (hl : xs.length ≤ 1048576) : ∃ r q, Evn (fun k => spec_SeedDays.f k xs a b c) (r, q) ∧ Evn (fun k => impl_SeedDays.f k xs a b c) (r, q) ∧ r.length ≤ 1048576 := by
  obtain ⟨v, hv⟩ := ok xs hl
  have hi : Evn (fun k => impl_ValidWeather.f k xs) v := hv
  generalize ha : (decide (1 ≤ a) && decide (a ≤ 30)) = fa
  generalize hb : (decide (0 ≤ b) && decide (b ≤ 50)) = fb
  generalize hc : (decide (0 ≤ c) && decide (c ≤ 40)) = fc
  have hspec : ∀ r, Evn (fun k => spec_SeedDays.j0 k xs a b c [] (if v then (if (fa && fb && fc) then 0 else 2) else 1)) r → Evn (fun k => spec_SeedDays.f k xs a b c) r := by
    intro r h
    unfold spec_SeedDays.f
    simp only [span_is, in_is, ha, hb, hc, Option.bind_some]
    cases fa with
    | false => exact Evn.neg (by simp) (Evn.bind (asked hv false) (by simpa using h))
    | true =>
      refine Evn.pos (by first | rfl | trivial) ?_
      cases fb with
      | false => exact Evn.neg (by simp) (Evn.bind (asked hv false) (by simpa using h))
      | true => exact Evn.pos (by first | rfl | trivial) (Evn.bind (asked hv fc) (by simpa using h))
  cases v with
  | false =>
    refine ⟨[], 1, hspec _ (Evn.succ ?_), ?_, by simp⟩
    · simp only [spec_SeedDays.j0]
      exact Evn.neg (by simp) (Evn.now _)
    · unfold impl_SeedDays.f
      exact Evn.bind hi (Evn.neg (by simp) (Evn.now _))
  | true =>
    have himpl : ∀ r, Evn (fun k => if (fa && fb && fc) = true then impl_SeedDays.l0 k xs a b c [] 0 else some ([], 2)) r → Evn (fun k => impl_SeedDays.f k xs a b c) r := by
      intro r h
      unfold impl_SeedDays.f
      simp only [within_is, ha, hb, hc, Option.bind_some]
      refine Evn.bind hi (Evn.pos (by first | rfl | trivial) ?_)
      cases fa with
      | false => simpa using h
      | true =>
        cases fb with
        | false => simpa using h
        | true =>
          cases fc with
          | false => simpa using h
          | true => simpa using h
    cases hf : (fa && fb && fc) with
    | false =>
      rw [hf] at hspec himpl
      refine ⟨[], 2, hspec _ (Evn.succ ?_), himpl _ ?_, by simp⟩
      · simp only [spec_SeedDays.j0]
        exact Evn.neg (by simp) (Evn.now _)
      · exact Evn.neg (by simp) (Evn.now _)
    | true =>
      rw [hf] at hspec himpl
      have h1 : fa = true := by cases fa <;> simp_all
      rw [h1] at ha
      simp only [Bool.and_eq_true, decide_eq_true_eq] at ha
      obtain ⟨r, e1, e2, e3⟩ := seed_loop xs hl a b c ha.1 ha.2 (xs.length + 1) 0 [] (by omega) (by simp) (by simp)
      refine ⟨r, 0, hspec _ (Evn.succ ?_), himpl _ ?_, e3⟩
      · simp only [spec_SeedDays.j0]
        exact Evn.pos (by first | rfl | trivial | simp) e1
      · exact Evn.pos (by first | rfl | trivial) e2
theorem seed_law (xs : List (S41)) (a b c : Int) (hx : xs.length ≤ 140737488351232) : ∃ k, laws_FnExactSeedDays.f k xs a b c = some true := by
  refine Evn.ex ?_
  unfold laws_FnExactSeedDays.f
  rw [sz xs 1048576 (by omega) (by omega) hx]
  simp only [Option.bind_some]
  by_cases h1 : (1048576 : Int) - xs.length < 0
  · rw [if_pos h1]
    exact Evn.pos (by omega) (Evn.now _)
  rw [if_neg h1]
  refine Evn.neg h1 ?_
  obtain ⟨t, ht, htl⟩ := toW xs (by omega)
  have hl : t.length ≤ 1048576 := by omega
  obtain ⟨r, q, hs, hi, hr⟩ := seed_both t a b c hl
  obtain ⟨ys, hm, hh⟩ := markI r hr
  obtain ⟨zs, m, hm2, hm0⟩ := markW t hl
  refine Evn.bind ht (Evn.bind hs (Evn.bind ht (Evn.bind hi (Evn.bind (eqI r hr) (Evn.pos rfl (Evn.succ ?_))))))
  simp only [laws_FnExactSeedDays.j0, bne_self_eq_false]
  refine Evn.neg (by decide) (Evn.bind ht (Evn.bind (eqW t hl) (Evn.pos rfl (Evn.bind hm2 (Evn.neg (by simp; omega) (Evn.bind (eqI r hr) (Evn.pos rfl (Evn.succ ?_))))))))
  simp only [laws_FnExactSeedDays.j1]
  refine Evn.neg (by decide) (Evn.bind hm (Evn.bind hh (Evn.neg (by omega) (Evn.pos rfl (Evn.bind ht (Evn.bind hi (Evn.bind (eqI r hr) (Evn.pos rfl (Evn.succ ?_)))))))))
  simp only [laws_FnExactSeedDays.j2, bne_self_eq_false]
  exact Evn.neg (by decide) (Evn.bind hh (Evn.neg (by omega) (Evn.pos rfl (Evn.now _))))
end Go.Proofs.Ytojknkdcpmhbfaa.QS
