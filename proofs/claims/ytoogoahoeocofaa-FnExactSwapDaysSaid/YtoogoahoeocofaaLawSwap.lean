/- Plain laws: SwapDays. -/
import Derived.Test.YtoogoahoeocofaaKDaysV
namespace Go.Proofs.Ytoogoahoeocofaa.QV
set_option linter.unusedSimpArgs false
set_option linter.unusedVariables false
open Go.RowKit Go.Proofs.Ytoogoahoeocofaa.B Go.Proofs.YtoogoahoeocofaaW.PrintWords Go.Proofs.YtoogoahoeocofaaW.PrintLast Go.Proofs.YtoogoahoeocofaaW.PrintMore

theorem within_is (a b c : Int) : impl_within.f a b c = some (decide (b ≤ a) && decide (a ≤ c)) := by
  unfold impl_within.f
  by_cases h : b ≤ a <;> simp [h]
theorem in_is (a b c : Int) : spec_l00In.f a b c = some (decide (b ≤ a) && decide (a ≤ c)) := within_is a b c
/-- Day j is marked from m on. -/
def mk2 (m : Int) : S49 := ⟨IntKind.i8.wrap m, IntKind.i8.wrap (m + 1)⟩
theorem rd_set_self (xs : List (S49)) (i : Nat) (x : S49) (h : i < xs.length) : rd_T49 (xs.set i x) (i : Int) = x := by
  unfold rd_T49
  rw [List.getD_eq_getElem?_getD, Int.toNat_natCast, List.getElem?_set_self (by simpa using h)]
  rfl
theorem rd_set_ne (xs : List (S49)) (i j : Nat) (x : S49) (h : i ≠ j) : rd_T49 (xs.set i x) (j : Int) = rd_T49 xs j := by
  unfold rd_T49
  rw [List.getD_eq_getElem?_getD, List.getD_eq_getElem?_getD, Int.toNat_natCast, List.getElem?_set_ne h]
theorem markW2_loop (len : Nat) (hl : len ≤ 1048576) : ∀ (n i : Nat) (m : Int) (xs : List (S49)), xs.length = len → i + n = len → 0 ≤ m → m ≤ 1 + 2 * i →
    ∃ ys, Evn (fun k => laws_markWeatherS.l0 k xs m i) (m + 2 * n, ys) ∧ ys.length = len ∧ (∀ j : Nat, j < i → rd_T49 ys j = rd_T49 xs j) ∧ ∀ j : Nat, j < n → rd_T49 ys (i + j : Nat) = mk2 (m + 2 * j) := by
  intro n
  induction n with
  | zero =>
    intro i m xs hx hi h0 h1
    refine ⟨xs, Evn.succ ?_, hx, fun _ _ => rfl, fun j hj => by omega⟩
    simp only [laws_markWeatherS.l0]
    exact Evn.neg (by omega) (by simpa using Evn.now _)
  | succ n ih =>
    intro i m xs hx hi h0 h1
    obtain ⟨ys, h, hy, h2, h3⟩ := ih (i + 1) (m + 1 + 1) ((xs.set i (⟨IntKind.i8.wrap m, (rd_T49 xs i).f1⟩ : S49)).set i (mk2 m)) (by rw [List.length_set, List.length_set]; exact hx) (by omega) (by omega) (by omega)
    refine ⟨ys, Evn.succ ?_, hy, fun j hj => ?_, fun j hj => ?_⟩
    · simp only [laws_markWeatherS.l0, Option.bind_some]
      refine Evn.pos (by omega) (Evn.pos (by omega) ?_)
      rw [wrap64_in (x := m + 1) (by omega) (by omega), wrap64_in (x := m + 1 + 1) (by omega) (by omega), wrap64_in (x := (i : Int) + 1) (by omega) (by omega), Int.toNat_natCast]
      rw [rd_set_self _ i _ (by omega)]
      have e : m + 2 * ((n + 1 : Nat) : Int) = m + 1 + 1 + 2 * n := by omega
      rw [e]
      exact h
    · rw [h2 j (by omega), rd_set_ne _ _ _ _ (by omega), rd_set_ne _ _ _ _ (by omega)]
    · by_cases e : j = 0
      · subst e
        rw [Nat.add_zero, h2 i (by omega), rd_set_self _ i _ (by rw [List.length_set]; omega)]
        congr 1
        omega
      · have := h3 (j - 1) (by omega)
        rw [show i + 1 + (j - 1) = i + j by omega] at this
        rw [this]
        congr 1
        omega
theorem heldW_loop (ys : List (S49)) (hl : ys.length ≤ 1048576) : ∀ (n i : Nat) (m : Int), i + n = ys.length → 0 ≤ m → m ≤ 1 + 2 * i → (∀ j : Nat, j < n → rd_T49 ys (i + j : Nat) = mk2 (m + 2 * j)) →
    Evn (fun k => laws_heldWeatherS.l0 k ys m i) (m + 2 * n) := by
  intro n
  induction n with
  | zero =>
    intro i m hi h0 h1 _
    refine Evn.succ ?_
    simp only [laws_heldWeatherS.l0]
    exact Evn.neg (by omega) (by simpa using Evn.now _)
  | succ n ih =>
    intro i m hi h0 h1 hh
    refine Evn.succ ?_
    simp only [laws_heldWeatherS.l0]
    have e0 := hh 0 (by omega)
    rw [Nat.add_zero, show m + 2 * ((0 : Nat) : Int) = m by omega] at e0
    rw [e0, wrap64_in (x := m + 1) (by omega) (by omega), wrap64_in (x := m + 1 + 1) (by omega) (by omega), wrap64_in (x := (i : Int) + 1) (by omega) (by omega)]
    refine Evn.pos (by omega) (Evn.pos (by omega) (Evn.pos rfl (Evn.pos rfl ?_)))
    have e : m + 2 * ((n + 1 : Nat) : Int) = m + 1 + 1 + 2 * n := by omega
    rw [e]
    exact ih (i + 1) (m + 1 + 1) (by omega) (by omega) (by omega) (fun j hj => by
      have := hh (j + 1) (by omega)
      rw [show i + 1 + j = i + (j + 1) by omega, this]
      congr 1
      omega)
theorem markW2 (xs : List (S49)) (hl : xs.length ≤ 1048576) : ∃ ys, Evn (fun k => laws_markWeatherS.f k xs 1) (1 + 2 * xs.length, ys) ∧ Evn (fun k => laws_heldWeatherS.f k ys 1) (1 + 2 * xs.length) := by
  obtain ⟨ys, h, hy, _, h3⟩ := markW2_loop xs.length hl xs.length 0 1 xs rfl (by omega) (by omega) (by omega)
  refine ⟨ys, by unfold laws_markWeatherS.f; exact h, ?_⟩
  unfold laws_heldWeatherS.f
  have := heldW_loop ys (by omega) ys.length 0 1 (by omega) (by omega) (by omega) (by rw [hy]; exact h3)
  rw [hy] at this
  exact this
theorem clone_is (xs : List (S49)) (hl : xs.length ≤ 1048576) : impl_Weather_35.f xs = some xs := by
  unfold impl_Weather_35.f
  simp only [Option.bind_some, List.length_nil, List.nil_append]
  rw [if_pos (by omega)]
theorem swap_both (xs : List (S49)) (a b : Int) (hl : xs.length ≤ 1048576) : ∃ r q, Evn (fun k => spec_SwapDays.f k xs a b) (r, q) ∧ Evn (fun k => impl_SwapDays.f k xs a b) (r, q) ∧ r.length ≤ 1048576 := by
  obtain ⟨v, hv⟩ := ok xs hl
  have hi : Evn (fun k => impl_ValidWeather.f k xs) v := hv
  have asked : ∀ f : Bool, Evn (fun k => spec_l03Asked.f k xs f) (if v then (if f then 0 else 2) else 1) := by
    intro f
    unfold spec_l03Asked.f
    cases v with
    | false => exact Evn.bind hv (Evn.neg (by decide) (Evn.now _))
    | true =>
      cases f with
      | false => exact Evn.bind hv (Evn.pos rfl (Evn.neg (by decide) (Evn.now _)))
      | true => exact Evn.bind hv (Evn.pos rfl (Evn.pos rfl (Evn.now _)))
  unfold spec_SwapDays.f impl_SwapDays.f
  have wl : wrap64 ((xs.length : Int) - 1) = (xs.length : Int) - 1 := wrap64_in (by omega) (by omega)
  simp only [in_is, within_is, Option.bind_some, wl, clone_is xs hl, List.length_nil, List.nil_append]
  cases v with
  | false =>
    refine ⟨[], 1, ?_, Evn.bind hi (Evn.neg (by simp) (Evn.now _)), by simp⟩
    by_cases h1 : (decide (0 ≤ a) && decide (a ≤ (xs.length : Int) - 1)) = true
    · exact Evn.pos h1 (Evn.bind (asked _) (Evn.neg (by simp) (Evn.now _)))
    · exact Evn.neg h1 (Evn.bind (asked _) (Evn.neg (by simp) (Evn.now _)))
  | true =>
    by_cases h1 : (decide (0 ≤ a) && decide (a ≤ (xs.length : Int) - 1)) = true
    · by_cases h2 : (decide (0 ≤ b) && decide (b ≤ (xs.length : Int) - 1)) = true
      · have ha : 0 ≤ a ∧ a < xs.length := by simp at h1; omega
        have hb : 0 ≤ b ∧ b < xs.length := by simp at h2; omega
        have asT := asked true
        refine ⟨(xs.set a.toNat ⟨(rd_T49 xs b).f0, (rd_T49 xs b).f1⟩).set b.toNat ⟨(rd_T49 xs a).f0, (rd_T49 xs a).f1⟩, 0, Evn.pos h1 ?_, Evn.bind hi (Evn.pos rfl (Evn.pos h1 (Evn.pos h2 (Evn.pos hb.1 (Evn.pos hb.2 (Evn.pos ha.1 (Evn.pos ha.2 (Evn.now _)))))))), by rw [List.length_set, List.length_set]; exact hl⟩
        rw [h2]
        exact Evn.bind asT (Evn.pos (by simp) (Evn.pos (by omega) (Evn.pos hb.1 (Evn.pos hb.2 (Evn.pos ha.1 (Evn.pos ha.2 (Evn.pos ha.2 (Evn.pos hb.2 (Evn.now _)))))))))
      · have h2' : (decide (0 ≤ b) && decide (b ≤ (xs.length : Int) - 1)) = false := by simpa using h2
        refine ⟨[], 2, Evn.pos h1 ?_, Evn.bind hi (Evn.pos rfl (Evn.pos h1 (Evn.neg h2 (Evn.now _)))), by simp⟩
        rw [h2']
        exact Evn.bind (asked false) (Evn.neg (by simp) (Evn.now _))
    · exact ⟨[], 2, Evn.neg h1 (Evn.bind (asked false) (Evn.neg (by simp) (Evn.now _))), Evn.bind hi (Evn.pos rfl (Evn.neg h1 (Evn.now _))), by simp⟩
theorem swapDays (xs : List (S51)) (a b : Int) (hx : xs.length ≤ 140737488351232) : ∃ k, laws_FnExactSwapDays.f k xs a b = some true := by
  refine Evn.ex ?_
  unfold laws_FnExactSwapDays.f
  rw [sz xs 1048576 (by omega) (by omega) hx]
  simp only [Option.bind_some]
  by_cases h1 : (1048576 : Int) - xs.length < 0
  · rw [if_pos h1]
    exact Evn.pos (by omega) (Evn.now _)
  rw [if_neg h1]
  refine Evn.neg h1 ?_
  obtain ⟨t, ht, htl⟩ := toW xs (by omega)
  have hl : t.length ≤ 1048576 := by omega
  obtain ⟨r, q, hs, hi, hr⟩ := swap_both t a b hl
  obtain ⟨ys, hm, hh⟩ := markW2 r hr
  obtain ⟨zs, m, hm2, hm0⟩ := markW t hl
  refine Evn.bind ht (Evn.bind hs (Evn.bind ht (Evn.bind hi (Evn.bind (eqW r hr) (Evn.pos rfl (Evn.succ ?_))))))
  simp only [laws_FnExactSwapDays.j0, bne_self_eq_false]
  refine Evn.neg (by decide) (Evn.bind ht (Evn.bind (eqW t hl) (Evn.pos rfl (Evn.bind hm2 (Evn.neg (by simp; omega) (Evn.bind (eqW r hr) (Evn.pos rfl (Evn.succ ?_))))))))
  simp only [laws_FnExactSwapDays.j1]
  refine Evn.neg (by decide) (Evn.bind hm (Evn.bind hh (Evn.neg (by omega) (Evn.pos rfl (Evn.bind ht (Evn.bind hi (Evn.bind (eqW r hr) (Evn.pos rfl (Evn.succ ?_)))))))))
  simp only [laws_FnExactSwapDays.j2, bne_self_eq_false]
  exact Evn.neg (by decide) (Evn.bind hh (Evn.neg (by omega) (Evn.pos rfl (Evn.now _))))
end Go.Proofs.Ytoogoahoeocofaa.QV
