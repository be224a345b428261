/- Plain laws: BestCut. -/
import Derived.Test.YtkebohpfneiimaaKPureM
import Derived.Test.YtkebohpfneiimaaKAskedM
import Derived.Test.YtkebohpfneiimaaKClipM
namespace Go.Proofs.Ytkebohpfneiimaa.QM
set_option linter.unusedSimpArgs false
set_option linter.unusedVariables false
open Go.RowKit Go.Proofs.Ytkebohpfneiimaa.B Go.Proofs.YtkebohpfneiimaaW.PrintWords Go.Proofs.YtkebohpfneiimaaW.PrintLast Go.Proofs.YtkebohpfneiimaaW.PrintMore

theorem min_is (a b : Int) : spec_l00Min.f a b = some (min a b) := by
  unfold spec_l00Min.f
  by_cases h : a < b
  · rw [if_pos h]; congr 1; omega
  · rw [if_neg h]; congr 1; omega
theorem grOf_in (x : S43) (hd : day_ x = true) : 0 ≤ grOf x ∧ grOf x ≤ 24 := by
  unfold day_ at hd
  simp only [Bool.and_eq_true, decide_eq_true_eq] at hd
  obtain ⟨⟨a0, a1⟩, b0, b1⟩ := hd
  unfold grOf impl_Weather_grows.f
  simp only [Option.getD_some]
  generalize wrap64 x.f0 = a at a0 a1
  generalize wrap64 x.f1 = b at b0 b1
  have ha : 0 ≤ a.tdiv 10 ∧ a.tdiv 10 ≤ 5 := by rw [Int.tdiv_eq_ediv_of_nonneg a0]; omega
  have hb : 0 ≤ b.tdiv 10 ∧ b.tdiv 10 ≤ 4 := by rw [Int.tdiv_eq_ediv_of_nonneg b0]; omega
  generalize a.tdiv 10 = u at ha
  generalize b.tdiv 10 = v at hb
  rw [wrap64_in (x := u) (by omega) (by omega), wrap64_in (x := v) (by omega) (by omega), wrap64_in (x := u + 1) (by omega) (by omega)]
  have h1 : 0 ≤ (u + 1) * v := Int.mul_nonneg (by omega) (by omega)
  have h2 : (u + 1) * v ≤ 6 * 4 := Int.mul_le_mul (by omega) (by omega) (by omega) (by omega)
  rw [wrap64_in (by omega) (by omega)]
  omega
theorem late_is (xs : List (S43)) (hl : xs.length ≤ 30) (hg : ∀ x ∈ xs, 0 ≤ grOf x ∧ grOf x ≤ 24) (cut most : Int) (c0 : 0 ≤ cut) (c1 : cut ≤ 200) (m1 : most ≤ 200) : ∀ (n i : Nat) (start : Int) (acc : List Int), i + n = xs.length → acc.length ≤ i → 0 ≤ start → start ≤ 200 →
    (∀ m, lateP cut most ((xs.map grOf).drop i) start = some m → ∃ r, Evn (fun k => spec_l03Late.l0 k start cut most xs acc i) (r, true) ∧ r.length = acc.length + m) ∧
    (lateP cut most ((xs.map grOf).drop i) start = none → Evn (fun k => spec_l03Late.l0 k start cut most xs acc i) ([], false)) := by
  intro n
  induction n with
  | zero =>
    intro i start acc hi ha h0 h1
    rw [List.drop_eq_nil_of_le (by simp; omega)]
    refine ⟨fun m hm => ?_, fun hm => by simp [lateP] at hm⟩
    simp only [lateP, Option.some.injEq] at hm
    subst hm
    refine ⟨acc, Evn.succ ?_, by omega⟩
    simp only [spec_l03Late.l0]
    exact Evn.neg (by omega) (Evn.now _)
  | succ n ih =>
    intro i start acc hi ha h0 h1
    have hgr := hg _ (rd_mem xs i (by omega))
    have hg1 : spec_l03Growth.f (rd_T43 xs i).f0 (rd_T43 xs i).f1 = some (grOf (rd_T43 xs i)) := rfl
    rw [drop_gr xs i (by omega)]
    obtain ⟨g, hgd⟩ : ∃ g, g = grOf (rd_T43 xs i) := ⟨_, rfl⟩
    rw [← hgd] at hgr hg1 ⊢
    have w1 : wrap64 ((i : Int) + 1) = ((i + 1 : Nat) : Int) := by rw [wrap64_in (by omega) (by omega)]; omega
    have w2 : wrap64 (start + g) = start + g := wrap64_in (by omega) (by omega)
    have w3 : wrap64 (min start cut + g) = min start cut + g := wrap64_in (by omega) (by omega)
    by_cases ha1 : start + g > most
    · by_cases ha2 : min start cut + g > most
      · have e : lateP cut most (g :: (xs.map grOf).drop (i + 1)) start = none := by rw [lateP, if_pos ha1, if_pos ha2]
        rw [e]
        refine ⟨fun m hm => (by cases hm), fun _ => Evn.succ ?_⟩
        simp only [spec_l03Late.l0, hg1, min_is, Option.bind_some, w2, w3]
        exact Evn.pos (by omega) (Evn.pos (by omega) (Evn.pos ha1 (Evn.pos (by omega) (Evn.pos ha2 (Evn.now _)))))
      · have e : lateP cut most (g :: (xs.map grOf).drop (i + 1)) start = (lateP cut most ((xs.map grOf).drop (i + 1)) (min start cut + g)).map (· + 1) := by rw [lateP, if_pos ha1, if_neg ha2]
        rw [e]
        obtain ⟨j1, j2⟩ := ih (i + 1) (min start cut + g) (acc ++ [(i : Int)]) (by omega) (by simp; omega) (by omega) (by omega)
        refine ⟨fun m hm => ?_, fun hm => ?_⟩
        · obtain ⟨q, hq, rfl⟩ := Option.map_eq_some_iff.1 hm
          obtain ⟨r, e1, e2⟩ := j1 q hq
          refine ⟨r, Evn.succ ?_, by simp at e2; omega⟩
          simp only [spec_l03Late.l0, hg1, min_is, Option.bind_some, w1, w2, w3]
          exact Evn.pos (by omega) (Evn.pos (by omega) (Evn.pos ha1 (Evn.pos (by omega) (Evn.neg ha2 e1))))
        · have e1 := j2 (by simpa using hm)
          refine Evn.succ ?_
          simp only [spec_l03Late.l0, hg1, min_is, Option.bind_some, w1, w2, w3]
          exact Evn.pos (by omega) (Evn.pos (by omega) (Evn.pos ha1 (Evn.pos (by omega) (Evn.neg ha2 e1))))
    · have e : lateP cut most (g :: (xs.map grOf).drop (i + 1)) start = lateP cut most ((xs.map grOf).drop (i + 1)) (start + g) := by rw [lateP, if_neg ha1]
      rw [e]
      obtain ⟨j1, j2⟩ := ih (i + 1) (start + g) acc (by omega) (by omega) (by omega) (by omega)
      refine ⟨fun m hm => ?_, fun hm => ?_⟩
      · obtain ⟨r, e1, e2⟩ := j1 m hm
        refine ⟨r, Evn.succ ?_, e2⟩
        simp only [spec_l03Late.l0, hg1, Option.bind_some, w1, w2]
        exact Evn.pos (by omega) (Evn.pos (by omega) (Evn.neg ha1 e1))
      · have e1 := j2 hm
        refine Evn.succ ?_
        simp only [spec_l03Late.l0, hg1, Option.bind_some, w1, w2]
        exact Evn.pos (by omega) (Evn.pos (by omega) (Evn.neg ha1 e1))
theorem best_loop (xs : List (S43)) (hl : xs.length ≤ 30) (hg : ∀ x ∈ xs, 0 ≤ grOf x ∧ grOf x ≤ 24) (start most mows : Int) (s0 : 0 ≤ start) (s1 : start ≤ 200) (m1 : most ≤ 200) (k1 : mows ≤ 30) : ∀ n : Nat, n ≤ 201 →
    Evn (fun k => spec_BestCut.l0 k start most xs mows ((n : Int) - 1)) (bestC (xs.map grOf) start most mows n) := by
  intro n
  induction n with
  | zero =>
    intro _
    refine Evn.succ ?_
    simp only [spec_BestCut.l0]
    exact Evn.neg (by omega) (Evn.now _)
  | succ n ih =>
    intro hn
    have en : ((n + 1 : Nat) : Int) - 1 = (n : Int) := by omega
    rw [en]
    have w1 : wrap64 ((n : Int) - 1) = (n : Int) - 1 := wrap64_in (by omega) (by omega)
    have ih1 := ih (by omega)
    obtain ⟨j1, j2⟩ := late_is xs hl hg n most (by omega) (by omega) m1 xs.length 0 start [] (by omega) (by simp) s0 s1
    obtain ⟨l1, l2⟩ := least_late (n : Int) most (xs.map grOf) start (by simp; omega) (fun g h => by obtain ⟨x, hx, rfl⟩ := List.mem_map.1 h; exact (hg x hx).1)
    rw [List.drop_zero] at j1 j2
    refine Evn.succ ?_
    simp only [spec_BestCut.l0, w1, bestC]
    refine Evn.pos (by omega) ?_
    cases e : lateP (n : Int) most (xs.map grOf) start with
    | none =>
      rw [l2 e, if_neg (by omega)]
      refine Evn.bind (a := ([], false)) (by unfold spec_l03Late.f; exact j2 e) (Evn.neg (by simp) ih1)
    | some m =>
      obtain ⟨r, e1, e2⟩ := j1 m e
      rw [(l1 m e).1]
      refine Evn.bind (a := (r, true)) (by unfold spec_l03Late.f; exact e1) (Evn.pos rfl ?_)
      simp only [List.length_nil, Nat.zero_add] at e2
      by_cases hm : (m : Int) ≤ mows
      · rw [if_pos hm]
        exact Evn.pos (by simp only [e2]; exact hm) (Evn.now _)
      · rw [if_neg hm]
        exact Evn.neg (by simp only [e2]; exact hm) ih1
theorem best_both (xs : List (S43)) (a b m : Int) (hl : xs.length ≤ 1048576) : ∃ r q, Evn (fun k => spec_BestCut.f k a b xs m) (r, q) ∧ Evn (fun k => impl_BestCut.f k a b xs m) (r, q) := by
  obtain ⟨v, hv⟩ := ok xs hl
  have hi : Evn (fun k => impl_ValidWeather.f k xs) v := hv
  have hmw : spec_l03Mows.f m = some (decide (0 ≤ m) && decide (m ≤ 30)) := by
    unfold spec_l03Mows.f
    rw [in_is]
    rfl
  obtain ⟨mw, hmd⟩ : ∃ mw, mw = (decide (0 ≤ m) && decide (m ≤ 30)) := ⟨_, rfl⟩
  rw [← hmd] at hmw
  have hspec : ∀ r, Evn (fun k => spec_BestCut.j0 k a b xs m (if v then (if (clip_ a && clip_ b && mw) then 0 else 2) else 1)) r → Evn (fun k => spec_BestCut.f k a b xs m) r := by
    intro r h
    unfold spec_BestCut.f
    simp only [high_clip, hmw, Option.bind_some]
    cases ha : clip_ a with
    | false =>
      refine Evn.neg (by simp) (Evn.bind (asked hv false) ?_)
      rw [ha] at h
      simpa using h
    | true =>
      refine Evn.pos (by first | rfl | trivial) ?_
      cases hb : clip_ b with
      | false =>
        refine Evn.neg (by simp) (Evn.bind (asked hv false) ?_)
        rw [ha, hb] at h
        simpa using h
      | true =>
        refine Evn.pos (by first | rfl | trivial) (Evn.bind (asked hv mw) ?_)
        rw [ha, hb] at h
        simpa using h
  have himpl : Evn (fun k => impl_lengthsCode.f k xs [a, b]) (if v then (if (clip_ a && clip_ b) then 0 else 2) else 1) := by
    unfold impl_lengthsCode.f lengths_any.f
    rw [if_pos (by simp)]
    simp only [Option.bind_some]
    cases v with
    | false => exact Evn.bind hi (Evn.neg (by simp) (Evn.now _))
    | true =>
      refine Evn.bind hi (Evn.pos (by first | rfl | trivial) ?_)
      have e : List.all [a, b] clip_ = (clip_ a && clip_ b) := by simp [List.all]
      rw [e]
      cases (clip_ a && clip_ b) with
      | false => exact Evn.pos (by simp) (Evn.now _)
      | true => exact Evn.neg (by simp) (Evn.now _)
  cases hvv : v with
  | false =>
    rw [hvv] at hspec himpl
    refine ⟨0, 1, hspec _ (Evn.succ ?_), ?_⟩
    · simp only [spec_BestCut.j0]
      exact Evn.neg (by simp) (Evn.now _)
    · unfold impl_BestCut.f
      exact Evn.bind himpl (Evn.neg (by simp) (Evn.now _))
  | true =>
    rw [hvv] at hspec himpl hv
    cases hab : (clip_ a && clip_ b) with
    | false =>
      rw [hab] at hspec himpl
      refine ⟨0, 2, hspec _ (Evn.succ ?_), ?_⟩
      · simp only [spec_BestCut.j0]
        exact Evn.neg (by simp) (Evn.now _)
      · unfold impl_BestCut.f
        exact Evn.bind himpl (Evn.neg (by simp) (Evn.now _))
    | true =>
      rw [hab] at hspec himpl
      cases hm : mw with
      | false =>
        rw [hm] at hspec hmd
        have hmn : ¬ (0 ≤ m ∧ m ≤ 30) := fun ⟨q1, q2⟩ => by rw [decide_eq_true q1, decide_eq_true q2] at hmd; cases hmd
        refine ⟨0, 2, hspec _ (Evn.succ ?_), ?_⟩
        · simp only [spec_BestCut.j0]
          exact Evn.neg (by simp) (Evn.now _)
        · unfold impl_BestCut.f
          exact Evn.bind himpl (Evn.pos (by simp) (Evn.neg hmn (Evn.now _)))
      | true =>
        rw [hm] at hspec hmd
        have hmn : 0 ≤ m ∧ m ≤ 30 := by simpa using hmd.symm
        obtain ⟨h30, hdays⟩ := ok_days hv
        have hab2 : (0 ≤ a ∧ a ≤ 200) ∧ 0 ≤ b ∧ b ≤ 200 := by simpa [clip_] using hab
        have hg : ∀ x ∈ xs, 0 ≤ grOf x ∧ grOf x ≤ 24 := fun x hx => by
          obtain ⟨j, hj, rfl⟩ := List.getElem_of_mem hx
          have := hdays j (by omega) (by omega)
          unfold rd_T43 at this
          simp only [Int.toNat_natCast, List.getD_eq_getElem?_getD, List.getElem?_eq_getElem hj, Option.getD_some] at this
          exact grOf_in _ this
        refine ⟨(bestC (xs.map grOf) a b m 201).1, (bestC (xs.map grOf) a b m 201).2, hspec _ (Evn.succ ?_), ?_⟩
        · simp only [spec_BestCut.j0]
          exact Evn.pos (by simp) (best_loop xs (by omega) hg a b m hab2.1.1 hab2.1.2 hab2.2.2 hmn.2 201 (by omega))
        · unfold impl_BestCut.f
          refine Evn.bind himpl (Evn.pos (by simp) (Evn.pos hmn (Evn.pos ⟨hab2.1.1, hab2.1.2, hab2.2.1, hab2.2.2, by omega, ?_⟩ (Evn.now _))))
          rw [List.all_eq_true]
          intro x hx
          have := hg x hx
          simp [this.1, this.2]
theorem bestCut (xs : List (S45)) (a b m : Int) (hx : xs.length ≤ 140737488351232) : ∃ k, laws_FnExactBestCut.f k a b xs m = some true := by
  refine Evn.ex ?_
  unfold laws_FnExactBestCut.f
  rw [sz xs 1048576 (by omega) (by omega) hx]
  simp only [Option.bind_some]
  by_cases h1 : (1048576 : Int) - xs.length < 0
  · rw [if_pos h1]
    exact Evn.pos (by omega) (Evn.now _)
  rw [if_neg h1]
  refine Evn.neg h1 ?_
  obtain ⟨t, ht, htl⟩ := toW xs (by omega)
  have hl : t.length ≤ 1048576 := by omega
  obtain ⟨r, q, hs, hi⟩ := best_both t a b m hl
  refine Evn.bind ht (Evn.bind hs (Evn.bind ht (Evn.bind hi (Evn.pos rfl (Evn.succ ?_)))))
  simp only [laws_FnExactBestCut.j0, bne_self_eq_false]
  exact Evn.neg (by decide) (Evn.bind ht (Evn.bind (eqW t hl) (Evn.pos rfl (Evn.now _))))
end Go.Proofs.Ytkebohpfneiimaa.QM
