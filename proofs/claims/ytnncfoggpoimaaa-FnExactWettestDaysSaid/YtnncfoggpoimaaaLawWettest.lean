/- Plain laws: WettestDays. -/
import Derived.Test.YtnncfoggpoimaaaLawDriest
import Derived.Test.YtnncfoggpoimaaaLawBoxes
import Derived.Test.YtnncfoggpoimaaaQWx9
namespace Go.Proofs.Ytnncfoggpoimaaa.QW
set_option linter.unusedSimpArgs false
set_option linter.unusedVariables false
open Go.RowKit Go.Proofs.Ytnncfoggpoimaaa.B Go.Proofs.YtnncfoggpoimaaaW.PrintWords Go.Proofs.YtnncfoggpoimaaaW.PrintLast Go.Proofs.YtnncfoggpoimaaaW.PrintMore

theorem rd_sub (xs : List (S45)) (i d k : Nat) (h : i + d ≤ xs.length) (hk : k < d) : rd_T45 ((xs.take (i + d)).drop i) (k : Int) = rd_T45 xs ((i + k : Nat) : Int) := by
  unfold rd_T45
  simp only [Int.toNat_natCast, List.getD_eq_getElem?_getD]
  rw [List.getElem?_drop, List.getElem?_take]
  rw [if_pos (by omega)]
/-- Rain. -/
def rain (xs : List (S45)) (j : Nat) : Int := wrap64 (rd_T45 xs j).f0

theorem wet_in (xs : List (S45)) (hl : xs.length ≤ 30) (d i : Nat) (hd : i + d ≤ xs.length) (hok : ∀ j : Nat, j < xs.length → 0 ≤ rain xs j ∧ rain xs j ≤ 50) (first most : Int) : ∀ (m k : Nat) (s : Int), k + m = d → 0 ≤ s → s ≤ 50 * k →
    ∃ s' : Int, 0 ≤ s' ∧
      (∀ r, Evn (fun q => if s' > most then spec_WettestDays.l0 q xs d i s' (wrap64 ((i : Int) + 1)) else spec_WettestDays.l0 q xs d first most (wrap64 ((i : Int) + 1))) r → Evn (fun q => spec_WettestDays.l1 q xs d first most i s k) r) ∧
      (∀ r, Evn (fun q => if s' > most then impl_WettestDays.l0 q xs d i s' (wrap64 ((i : Int) + 1)) else impl_WettestDays.l0 q xs d first most (wrap64 ((i : Int) + 1))) r → Evn (fun q => impl_WettestDays.l1 q xs d first most i s ((xs.take (i + d)).drop i) (d : Int) k) r) := by
  intro m
  induction m with
  | zero =>
    intro k s hk h0 h1
    refine ⟨s, h0, fun r h => Evn.succ ?_, fun r h => Evn.succ ?_⟩
    · simp only [spec_WettestDays.l1]
      exact Evn.neg (by omega) h
    · simp only [impl_WettestDays.l1]
      exact Evn.neg (by omega) h
  | succ m ih =>
    intro k s hk h0 h1
    have hr := hok (i + k) (by omega)
    obtain ⟨s', a0, a1, a2⟩ := ih (k + 1) (s + rain xs (i + k)) (by omega) (by omega) (by omega)
    have hlen : ((xs.take (i + d)).drop i).length = d := by rw [List.length_drop, List.length_take]; omega
    have w1 : wrap64 ((k : Int) + 1) = ((k + 1 : Nat) : Int) := by rw [wrap64_in (by omega) (by omega)]; omega
    refine ⟨s', a0, fun r h => Evn.succ ?_, fun r h => Evn.succ ?_⟩
    · simp only [spec_WettestDays.l1]
      rw [wrap64_in (x := (i : Int) + k) (by omega) (by omega), w1]
      have e : wrap64 (rd_T45 xs ((i : Int) + k)).f0 = rain xs (i + k) := by unfold rain; rw [show ((i + k : Nat) : Int) = (i : Int) + k by omega]
      rw [e, wrap64_in (x := s + rain xs (i + k)) (by omega) (by omega)]
      exact Evn.pos (by omega) (Evn.pos (by omega) (Evn.pos (by omega) (a1 r h)))
    · simp only [impl_WettestDays.l1]
      have e : wrap64 (rd_T45 ((xs.take (i + d)).drop i) (k : Int)).f0 = rain xs (i + k) := by unfold rain; rw [rd_sub xs i d k hd (by omega)]
      rw [e, wrap64_in (x := s + rain xs (i + k)) (by omega) (by omega), w1]
      exact Evn.pos (by omega) (Evn.pos (by omega) (Evn.pos (by omega) (a2 r h)))

theorem wet_loop (xs : List (S45)) (hl : xs.length ≤ 30) (d : Nat) (hd : 1 ≤ d) (hd2 : d ≤ 30) (hok : ∀ j : Nat, j < xs.length → 0 ≤ rain xs j ∧ rain xs j ≤ 50) : ∀ (n i : Nat) (first most : Int), i + n = xs.length + 1 → (0 ≤ most ∨ (i = 0 ∧ d ≤ xs.length ∧ most = -1)) →
    ∃ b q : Int, Evn (fun k => spec_WettestDays.l0 k xs d first most i) (b, q, 0) ∧ Evn (fun k => impl_WettestDays.l0 k xs d first most i) (b, q, 0) := by
  intro n
  induction n with
  | zero =>
    intro i first most hi hm
    refine ⟨first, most, Evn.succ ?_, Evn.succ ?_⟩
    · simp only [spec_WettestDays.l0]
      rw [wrap64_in (x := (i : Int) + d) (by omega) (by omega)]
      exact Evn.neg (by omega) (Evn.now _)
    · simp only [impl_WettestDays.l0]
      rw [wrap64_in (x := (i : Int) + d) (by omega) (by omega)]
      exact Evn.neg (by omega) (Evn.neg (by omega) (Evn.now _))
  | succ n ih =>
    intro i first most hi hm
    by_cases hle : i + d ≤ xs.length
    · obtain ⟨s', a0, a1, a2⟩ := wet_in xs hl d i hle hok first most d 0 0 (by omega) (by omega) (by omega)
      have hlen : ((xs.take (i + d)).drop i).length = d := by rw [List.length_drop, List.length_take]; omega
      have w1 : wrap64 ((i : Int) + 1) = ((i + 1 : Nat) : Int) := by rw [wrap64_in (by omega) (by omega)]; omega
      have go : ∀ (f2 m2 : Int), 0 ≤ m2 → ((s' > most → f2 = i ∧ m2 = s') ∧ (¬ s' > most → f2 = first ∧ m2 = most)) → ∃ b q : Int, Evn (fun k => spec_WettestDays.l0 k xs d first most i) (b, q, 0) ∧ Evn (fun k => impl_WettestDays.l0 k xs d first most i) (b, q, 0) := by
        intro f2 m2 h0 hc
        obtain ⟨b, q, e1, e2⟩ := ih (i + 1) f2 m2 (by omega) (Or.inl h0)
        refine ⟨b, q, Evn.succ ?_, Evn.succ ?_⟩
        · simp only [spec_WettestDays.l0]
          rw [wrap64_in (x := (i : Int) + d) (by omega) (by omega)]
          refine Evn.pos (by omega) (a1 _ ?_)
          rw [w1]
          by_cases hgt : s' > most
          · obtain ⟨rfl, rfl⟩ := hc.1 hgt
            exact Evn.pos hgt e1
          · obtain ⟨rfl, rfl⟩ := hc.2 hgt
            exact Evn.neg hgt e1
        · simp only [impl_WettestDays.l0, Option.bind_some]
          rw [wrap64_in (x := (i : Int) + d) (by omega) (by omega)]
          have e : ((xs.take ((i : Int) + d).toNat).drop ((i : Int)).toNat) = (xs.take (i + d)).drop i := by
            rw [show ((i : Int) + d).toNat = i + d by omega, Int.toNat_natCast]
          rw [e, hlen]
          refine Evn.pos (by omega) (Evn.pos (by omega) (Evn.pos (by omega) (a2 _ ?_)))
          rw [w1]
          by_cases hgt : s' > most
          · obtain ⟨rfl, rfl⟩ := hc.1 hgt
            exact Evn.pos hgt e2
          · obtain ⟨rfl, rfl⟩ := hc.2 hgt
            exact Evn.neg hgt e2
      by_cases hgt : s' > most
      · exact go i s' a0 ⟨fun _ => ⟨rfl, rfl⟩, fun h => absurd hgt h⟩
      · exact go first most (by omega) ⟨fun h => absurd h hgt, fun _ => ⟨rfl, rfl⟩⟩
    · refine ⟨first, most, Evn.succ ?_, Evn.succ ?_⟩
      · simp only [spec_WettestDays.l0]
        rw [wrap64_in (x := (i : Int) + d) (by omega) (by omega)]
        exact Evn.neg (by omega) (Evn.now _)
      · simp only [impl_WettestDays.l0]
        rw [wrap64_in (x := (i : Int) + d) (by omega) (by omega)]
        exact Evn.neg (by omega) (Evn.neg (by omega) (Evn.now _))
theorem wet_none (xs : List (S45)) (hl : xs.length ≤ 30) (d : Int) (hd : d > xs.length) (hd2 : d ≤ 30) : Evn (fun k => impl_WettestDays.l0 k xs d 0 (-1) 0) (0, 0, 6) := by
  refine Evn.succ ?_
  simp only [impl_WettestDays.l0]
  rw [wrap64_in (x := (0 : Int) + d) (by omega) (by omega)]
  exact Evn.neg (by omega) (Evn.pos (by omega) (Evn.now _))
theorem wettest_both (xs : List (S45)) (a : Int) (hl : xs.length ≤ 1048576) : ∃ b q c, Evn (fun k => spec_WettestDays.f k xs a) (b, q, c) ∧ Evn (fun k => impl_WettestDays.f k xs a) (b, q, c) := by
  obtain ⟨b, hb⟩ := ok xs hl
  have hi : Evn (fun k => impl_ValidWeather.f k xs) b := hb
  have hasked : ∀ f : Bool, Evn (fun k => spec_l03Asked.f k xs f) (if b then (if f then 0 else 2) else 1) := by
    intro f
    unfold spec_l03Asked.f
    cases b with
    | false => exact Evn.bind hb (Evn.neg (by decide) (Evn.now _))
    | true =>
      cases f with
      | false => exact Evn.bind hb (Evn.pos rfl (Evn.neg (by decide) (Evn.now _)))
      | true => exact Evn.bind hb (Evn.pos rfl (Evn.pos rfl (Evn.now _)))
  unfold spec_WettestDays.f impl_WettestDays.f spec_l03Span.f
  simp only [in_is, within_is, Option.bind_some]
  have h := hasked (decide (1 ≤ a) && decide (a ≤ 30))
  cases b with
  | false =>
    refine ⟨0, 0, 1, Evn.bind h (Evn.neg (by simp) (Evn.succ ?_)), Evn.bind hi (Evn.neg (by decide) (Evn.now _))⟩
    simp only [spec_WettestDays.j0]
    refine Evn.neg (by decide) (Evn.succ ?_)
    simp only [spec_WettestDays.j1]
    exact Evn.neg (by simp) (Evn.now _)
  | true =>
    by_cases hf : (decide (1 ≤ a) && decide (a ≤ 30)) = true
    · rw [hf] at h
      simp only [hf]
      have ha : 1 ≤ a ∧ a ≤ 30 := by simpa using hf
      obtain ⟨h30, hday⟩ := ok_days hb
      by_cases hgt : a > (xs.length : Int)
      · refine ⟨0, 0, 6, Evn.bind h (Evn.pos (by decide) (Evn.succ ?_)), Evn.bind hi (Evn.pos rfl (Evn.pos (by first | trivial | rfl) (wet_none xs (by omega) a hgt ha.2)))⟩
        simp only [spec_WettestDays.j0]
        refine Evn.pos (by simpa using hgt) (Evn.succ ?_)
        simp only [spec_WettestDays.j1]
        exact Evn.neg (by decide) (Evn.now _)
      · obtain ⟨d, rfl⟩ : ∃ d : Nat, a = d := ⟨a.toNat, by omega⟩
        have hrain : ∀ j : Nat, j < xs.length → 0 ≤ rain xs j ∧ rain xs j ≤ 50 := by
          intro j hj
          have := hday j (by omega) (by omega)
          unfold day_ at this
          simp only [Bool.and_eq_true, decide_eq_true_eq] at this
          exact ⟨this.1.1, this.1.2⟩
        obtain ⟨b, q, e1, e2⟩ := wet_loop xs (by omega) d (by omega) (by omega) hrain (xs.length + 1) 0 0 (-1) (by omega) (Or.inr ⟨rfl, by omega, rfl⟩)
        refine ⟨b, q, 0, Evn.bind h (Evn.pos (by decide) (Evn.succ ?_)), Evn.bind hi (Evn.pos rfl (Evn.pos (by first | trivial | rfl) e2))⟩
        simp only [spec_WettestDays.j0]
        refine Evn.neg (by simpa using hgt) (Evn.succ ?_)
        simp only [spec_WettestDays.j1]
        exact Evn.pos (by first | trivial | rfl | decide) e1
    · have hf' : (decide (1 ≤ a) && decide (a ≤ 30)) = false := by simpa using hf
      rw [hf'] at h
      simp only [hf']
      refine ⟨0, 0, 2, Evn.bind h (Evn.neg (by decide) (Evn.succ ?_)), Evn.bind hi (Evn.pos rfl (Evn.neg (by decide) (Evn.now _)))⟩
      simp only [spec_WettestDays.j0]
      refine Evn.neg (by decide) (Evn.succ ?_)
      simp only [spec_WettestDays.j1]
      exact Evn.neg (by decide) (Evn.now _)
theorem wettestDays (xs : List (S47)) (a : Int) (hx : xs.length ≤ 140737488351232) : ∃ k, laws_FnExactWettestDays.f k xs a = some true := by
  refine Evn.ex ?_
  unfold laws_FnExactWettestDays.f
  rw [sz xs 1048576 (by omega) (by omega) hx]
  simp only [Option.bind_some]
  by_cases h1 : (1048576 : Int) - xs.length < 0
  · rw [if_pos h1]
    exact Evn.pos (by omega) (Evn.now _)
  rw [if_neg h1]
  refine Evn.neg h1 ?_
  obtain ⟨t, ht, htl⟩ := toW xs (by omega)
  have hl : t.length ≤ 1048576 := by omega
  obtain ⟨b, q, c, hs, hi⟩ := wettest_both t a hl
  refine Evn.bind ht (Evn.bind hs (Evn.bind ht (Evn.bind hi (Evn.pos rfl (Evn.pos rfl (Evn.succ ?_))))))
  simp only [laws_FnExactWettestDays.j0, bne_self_eq_false]
  exact Evn.neg (by decide) (Evn.bind ht (Evn.bind (eqW t hl) (Evn.pos rfl (Evn.now _))))
end Go.Proofs.Ytnncfoggpoimaaa.QW
