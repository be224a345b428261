/- Plain laws: lists of days laid anew, compared, marked; numbers compared, marked, held. -/
import Derived.Test.YtkebohpfneiimaaEv
import Derived.Test.YtkebohpfneiimaaQFx
namespace Go.Proofs.Ytkebohpfneiimaa.QF
set_option linter.unusedSimpArgs false
set_option linter.unusedVariables false
open Go.RowKit Go.Proofs.Ytkebohpfneiimaa.B Go.Proofs.YtkebohpfneiimaaW.PrintWords Go.Proofs.YtkebohpfneiimaaW.PrintLast Go.Proofs.YtkebohpfneiimaaW.PrintMore

theorem toW_loop (xs : List (S45)) (hl : xs.length ≤ 1048576) : ∀ (n : Nat) (i : Nat) (acc : List (S43)), i + n = xs.length → acc.length = xs.length →
    ∃ r, Evn (fun k => laws_toWeatherS.l0 k xs acc i) r ∧ r.length = xs.length := by
  intro n
  induction n with
  | zero =>
    intro i acc hi ha
    refine ⟨acc, Evn.succ ?_, ha⟩
    simp only [laws_toWeatherS.l0]
    exact Evn.neg (by omega) (Evn.now _)
  | succ n ih =>
    intro i acc hi ha
    obtain ⟨r, h, hr⟩ := ih (i + 1) (acc.set (i : Int).toNat ⟨(rd_T45 xs i).f0, (rd_T45 xs i).f1⟩) (by omega) (by rw [List.length_set]; exact ha)
    refine ⟨r, Evn.succ ?_, hr⟩
    simp only [laws_toWeatherS.l0, laws_toWeather.f, Option.bind_some]
    refine Evn.pos (by omega) (Evn.pos (by omega) (Evn.pos (by omega) ?_))
    rw [wrap64_in (by omega) (by omega)]
    simpa using h
theorem toW (xs : List (S45)) (hl : xs.length ≤ 1048576) : ∃ r, Evn (fun k => laws_toWeatherS.f k xs) r ∧ r.length = xs.length := by
  obtain ⟨r, h, hr⟩ := toW_loop xs hl xs.length 0 (List.replicate ((xs.length : Int)).toNat z43) (by omega) (by simp)
  refine ⟨r, ?_, hr⟩
  unfold laws_toWeatherS.f
  exact Evn.pos (by omega) (Evn.pos (by omega) h)
theorem eqW_loop (xs : List (S43)) (hl : xs.length ≤ 1048576) : ∀ (n : Nat) (i : Nat), i + n = xs.length → Evn (fun k => laws_eqWeatherS.l0 k xs xs i) true := by
  intro n
  induction n with
  | zero =>
    intro i hi
    refine Evn.succ ?_
    simp only [laws_eqWeatherS.l0]
    exact Evn.neg (by omega) (Evn.now _)
  | succ n ih =>
    intro i hi
    refine Evn.succ ?_
    simp only [laws_eqWeatherS.l0, laws_eqWeather.f, if_true, Option.bind_some]
    refine Evn.pos (by omega) (Evn.pos (by omega) (Evn.pos (by omega) ?_))
    rw [wrap64_in (by omega) (by omega)]
    simpa using ih (i + 1) (by omega)
theorem eqW (xs : List (S43)) (hl : xs.length ≤ 1048576) : Evn (fun k => laws_eqWeatherS.f k xs xs) true := by
  unfold laws_eqWeatherS.f
  exact Evn.pos rfl (by simpa using eqW_loop xs hl xs.length 0 (by omega))
theorem eqI_loop (xs : List Int) (hl : xs.length ≤ 1048576) : ∀ (n : Nat) (i : Nat), i + n = xs.length → Evn (fun k => laws_eqInt64S.l0 k xs xs i) true := by
  intro n
  induction n with
  | zero =>
    intro i hi
    refine Evn.succ ?_
    simp only [laws_eqInt64S.l0]
    exact Evn.neg (by omega) (Evn.now _)
  | succ n ih =>
    intro i hi
    refine Evn.succ ?_
    simp only [laws_eqInt64S.l0, if_true]
    refine Evn.pos (by omega) (Evn.pos (by omega) (Evn.pos (by omega) ?_))
    rw [wrap64_in (by omega) (by omega)]
    simpa using ih (i + 1) (by omega)
theorem eqI (xs : List Int) (hl : xs.length ≤ 1048576) : Evn (fun k => laws_eqInt64S.f k xs xs) true := by
  unfold laws_eqInt64S.f
  exact Evn.pos rfl (by simpa using eqI_loop xs hl xs.length 0 (by omega))
theorem markI_loop (xs0 : List Int) (hl : xs0.length ≤ 1048576) : ∀ (n i : Nat) (m : Int) (xs : List Int), xs.length = xs0.length → i + n = xs.length → 0 ≤ m → m ≤ 2097152 + i →
    ∃ ys, Evn (fun k => laws_markInt64S.l0 k xs m i) (m + n, ys) ∧ ys.length = xs.length ∧ (∀ j, j < i → ys.getD j 0 = xs.getD j 0) ∧ ∀ j, j < n → ys.getD (i + j) 0 = m + j := by
  intro n
  induction n with
  | zero =>
    intro i m xs hx hi h0 h1
    refine ⟨xs, Evn.succ ?_, rfl, fun _ _ => rfl, fun j hj => by omega⟩
    simp only [laws_markInt64S.l0]
    exact Evn.neg (by omega) (by simpa using Evn.now _)
  | succ n ih =>
    intro i m xs hx hi h0 h1
    obtain ⟨ys, h, hy, h2, h3⟩ := ih (i + 1) (m + 1) (xs.set i m) (by rw [List.length_set]; exact hx) (by rw [List.length_set]; omega) (by omega) (by omega)
    rw [List.length_set] at hy
    refine ⟨ys, Evn.succ ?_, hy, fun j hj => ?_, fun j hj => ?_⟩
    · simp only [laws_markInt64S.l0]
      refine Evn.pos (by omega) (Evn.pos (by omega) ?_)
      rw [wrap64_in (by omega) (by omega), wrap64_in (by omega) (by omega)]
      have e : m + (n + 1 : Nat) = m + 1 + n := by omega
      rw [e]
      simpa using h
    · rw [h2 j (by omega)]
      simp only [List.getD_eq_getElem?_getD]
      rw [List.getElem?_set_ne (by omega)]
    · by_cases e : j = 0
      · subst e
        rw [Nat.add_zero, h2 i (by omega)]
        simp only [List.getD_eq_getElem?_getD]
        rw [List.getElem?_set_self (by omega)]
        simp
      · have := h3 (j - 1) (by omega)
        rw [show i + 1 + (j - 1) = i + j by omega] at this
        rw [this]
        omega
theorem heldI_loop (ys : List Int) (hl : ys.length ≤ 1048576) : ∀ (n i : Nat) (m : Int), i + n = ys.length → 0 ≤ m → m ≤ 2097152 + i → (∀ j, j < n → ys.getD (i + j) 0 = m + j) →
    Evn (fun k => laws_heldInt64S.l0 k ys m i) (m + n) := by
  intro n
  induction n with
  | zero =>
    intro i m hi h0 h1 _
    refine Evn.succ ?_
    simp only [laws_heldInt64S.l0]
    exact Evn.neg (by omega) (by simpa using Evn.now _)
  | succ n ih =>
    intro i m hi h0 h1 hh
    refine Evn.succ ?_
    simp only [laws_heldInt64S.l0]
    have e0 := hh 0 (by omega)
    refine Evn.pos (by omega) (Evn.pos (by omega) (Evn.pos (by unfold rd; simpa using e0) ?_))
    rw [wrap64_in (by omega) (by omega), wrap64_in (by omega) (by omega)]
    have e : m + (n + 1 : Nat) = m + 1 + n := by omega
    rw [e]
    simpa using ih (i + 1) (m + 1) (by omega) (by omega) (by omega) (fun j hj => by
      have := hh (j + 1) (by omega)
      rw [show i + 1 + j = i + (j + 1) by omega, this]; omega)
theorem markI (xs : List Int) (hl : xs.length ≤ 1048576) : ∃ ys, Evn (fun k => laws_markInt64S.f k xs 1) (1 + xs.length, ys) ∧ Evn (fun k => laws_heldInt64S.f k ys 1) (1 + xs.length) := by
  obtain ⟨ys, h, hy, _, h3⟩ := markI_loop xs hl xs.length 0 1 xs rfl (by omega) (by omega) (by omega)
  refine ⟨ys, by unfold laws_markInt64S.f; simpa using h, ?_⟩
  unfold laws_heldInt64S.f
  have := heldI_loop ys (by omega) ys.length 0 1 (by omega) (by omega) (by omega) (by rw [hy]; exact h3)
  rw [hy] at this
  simpa using this
theorem ok_loop (xs : List (S43)) (hl : xs.length ≤ 1048576) : ∀ (n i : Nat), i + n = xs.length → ∃ b, Evn (fun k => spec_l03Ok.l0 k xs i) b := by
  intro n
  induction n with
  | zero =>
    intro i hi
    refine ⟨decide ((xs.length : Int) ≤ 30), Evn.succ ?_⟩
    simp only [spec_l03Ok.l0]
    exact Evn.neg (by omega) (Evn.now _)
  | succ n ih =>
    intro i hi
    obtain ⟨b, h⟩ := ih (i + 1) (by omega)
    cases hd : day_ (rd_T43 xs i) with
    | true =>
      refine ⟨b, Evn.succ ?_⟩
      simp only [spec_l03Ok.l0, day_spec, hd, Option.bind_some, if_true]
      refine Evn.pos (by omega) (Evn.pos (by omega) ?_)
      rw [wrap64_in (by omega) (by omega)]
      simpa using h
    | false =>
      refine ⟨false, Evn.succ ?_⟩
      simp only [spec_l03Ok.l0, day_spec, hd, Option.bind_some]
      exact Evn.pos (by omega) (Evn.pos (by omega) (Evn.neg (by decide) (Evn.now _)))
theorem ok (xs : List (S43)) (hl : xs.length ≤ 1048576) : ∃ b, Evn (fun k => spec_l03Ok.f k xs) b := by
  obtain ⟨b, h⟩ := ok_loop xs hl xs.length 0 (by omega)
  exact ⟨b, by unfold spec_l03Ok.f; simpa using h⟩
theorem sz (xs : List (S45)) (a : Int) (ha : 0 ≤ a) (ha2 : a ≤ 1048576) (hx : xs.length ≤ 140737488351232) : laws_szWeatherS.f xs a = some (if a - (xs.length : Int) < 0 then -1 else a - (xs.length : Int)) := by
  unfold laws_szWeatherS.f
  rw [wrap64_in (by omega) (by omega)]
  split <;> rfl
theorem markW_loop (len : Nat) (hl : len ≤ 1048576) : ∀ (n i : Nat) (m : Int) (xs : List (S43)), xs.length = len → i + n = len → 0 ≤ m → m ≤ 1 + 2 * i →
    ∃ ys q, Evn (fun k => laws_markWeatherS.l0 k xs m i) (q, ys) ∧ 0 ≤ q := by
  intro n
  induction n with
  | zero =>
    intro i m xs hx hi h0 h1
    refine ⟨xs, m, Evn.succ ?_, h0⟩
    simp only [laws_markWeatherS.l0]
    exact Evn.neg (by omega) (Evn.now _)
  | succ n ih =>
    intro i m xs hx hi h0 h1
    have step : ∀ zs : List (S43), zs.length = len → ∃ ys q, Evn (fun k => laws_markWeatherS.l0 k zs (m + 1 + 1) (i + 1 : Nat)) (q, ys) ∧ 0 ≤ q := fun zs hz => ih (i + 1) (m + 1 + 1) zs hz (by omega) (by omega) (by omega)
    obtain ⟨ys, q, h, hq⟩ := step ((xs.set (i : Int).toNat (⟨IntKind.i8.wrap m, (rd_T43 xs i).f1⟩ : S43)).set (i : Int).toNat (⟨(rd_T43 (xs.set (i : Int).toNat (⟨IntKind.i8.wrap m, (rd_T43 xs i).f1⟩ : S43)) i).f0, IntKind.i8.wrap (m + 1)⟩ : S43)) (by rw [List.length_set, List.length_set]; exact hx)
    refine ⟨ys, q, Evn.succ ?_, hq⟩
    simp only [laws_markWeatherS.l0, Option.bind_some]
    refine Evn.pos (by omega) (Evn.pos (by omega) ?_)
    rw [wrap64_in (x := m + 1) (by omega) (by omega), wrap64_in (x := m + 1 + 1) (by omega) (by omega), wrap64_in (x := (i : Int) + 1) (by omega) (by omega)]
    exact h
theorem markW (xs : List (S43)) (hl : xs.length ≤ 1048576) : ∃ ys q, Evn (fun k => laws_markWeatherS.f k xs 1) (q, ys) ∧ 0 ≤ q := by
  obtain ⟨ys, q, h, hq⟩ := markW_loop xs.length hl xs.length 0 1 xs rfl (by omega) (by omega) (by omega)
  exact ⟨ys, q, by unfold laws_markWeatherS.f; exact h, hq⟩
theorem ok_days {xs : List (S43)} (h : Evn (fun k => spec_l03Ok.f k xs) true) : (xs.length : Int) ≤ 30 ∧ ∀ j : Int, 0 ≤ j → j < xs.length → day_ (rd_T43 xs j) = true := by
  obtain ⟨k, hk⟩ := h.ex
  unfold spec_l03Ok.f at hk
  rcases ok_tells xs k 0 true (by omega) (by omega) hk with ⟨h, _⟩ | ⟨h, h2⟩
  · cases h
  · exact ⟨of_decide_eq_true h.symm, h2⟩

end Go.Proofs.Ytkebohpfneiimaa.QF
