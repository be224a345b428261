/- Plain laws: lists of days compared, marked, held. -/
import Derived.Test.YtkebohpfneiimaaDoorEv
import Derived.Test.YtkebohpfneiimaaDoorQUx
namespace Go.Proofs.YtkebohpfneiimaaDoor.QU
set_option linter.unusedSimpArgs false
set_option linter.unusedVariables false
open Go.RowKit Go.Proofs.YtkebohpfneiimaaDoor.B Go.Proofs.YtkebohpfneiimaaDoorW.PrintWords Go.Proofs.YtkebohpfneiimaaDoorW.PrintLast Go.Proofs.YtkebohpfneiimaaDoorW.PrintMore
theorem eqW_loop (xs : List (S36)) (hl : xs.length ≤ 1048576) : ∀ (n : Nat) (i : Nat), i + n = xs.length → Evn (fun k => laws_eqWeatherS.l0 k xs xs i) true := by
  intro n
  induction n with
  | zero =>
    intro i hi
    refine Evn.succ ?_
    simp only [laws_eqWeatherS.l0]
    exact Evn.neg (by omega) (Evn.now _)
  | succ n ih =>
    intro i hi
    refine Evn.succ ?_
    simp only [laws_eqWeatherS.l0, laws_eqWeather.f, if_true, Option.bind_some]
    refine Evn.pos (by omega) (Evn.pos (by omega) (Evn.pos (by omega) ?_))
    rw [wrap64_in (by omega) (by omega)]
    simpa using ih (i + 1) (by omega)
theorem eqW (xs : List (S36)) (hl : xs.length ≤ 1048576) : Evn (fun k => laws_eqWeatherS.f k xs xs) true := by
  unfold laws_eqWeatherS.f
  exact Evn.pos rfl (by simpa using eqW_loop xs hl xs.length 0 (by omega))
def mk2 (m : Int) : S36 := ⟨IntKind.i8.wrap m, IntKind.i8.wrap (m + 1)⟩
theorem rd_set_self (xs : List (S36)) (i : Nat) (x : S36) (h : i < xs.length) : rd_T36 (xs.set i x) (i : Int) = x := by
  unfold rd_T36
  rw [List.getD_eq_getElem?_getD, Int.toNat_natCast, List.getElem?_set_self (by simpa using h)]
  rfl
theorem rd_set_ne (xs : List (S36)) (i j : Nat) (x : S36) (h : i ≠ j) : rd_T36 (xs.set i x) (j : Int) = rd_T36 xs j := by
  unfold rd_T36
  rw [List.getD_eq_getElem?_getD, List.getD_eq_getElem?_getD, Int.toNat_natCast, List.getElem?_set_ne h]
theorem markW2_loop (len : Nat) (hl : len ≤ 1048576) : ∀ (n i : Nat) (m : Int) (xs : List (S36)), xs.length = len → i + n = len → 0 ≤ m → m ≤ 1 + 2 * i →
    ∃ ys, Evn (fun k => laws_markWeatherS.l0 k xs m i) (m + 2 * n, ys) ∧ ys.length = len ∧ (∀ j : Nat, j < i → rd_T36 ys j = rd_T36 xs j) ∧ ∀ j : Nat, j < n → rd_T36 ys (i + j : Nat) = mk2 (m + 2 * j) := by
  intro n
  induction n with
  | zero =>
    intro i m xs hx hi h0 h1
    refine ⟨xs, Evn.succ ?_, hx, fun _ _ => rfl, fun j hj => by omega⟩
    simp only [laws_markWeatherS.l0]
    exact Evn.neg (by omega) (by simpa using Evn.now _)
  | succ n ih =>
    intro i m xs hx hi h0 h1
    obtain ⟨ys, h, hy, h2, h3⟩ := ih (i + 1) (m + 1 + 1) ((xs.set i (⟨IntKind.i8.wrap m, (rd_T36 xs i).f1⟩ : S36)).set i (mk2 m)) (by rw [List.length_set, List.length_set]; exact hx) (by omega) (by omega) (by omega)
    refine ⟨ys, Evn.succ ?_, hy, fun j hj => ?_, fun j hj => ?_⟩
    · simp only [laws_markWeatherS.l0, Option.bind_some]
      refine Evn.pos (by omega) (Evn.pos (by omega) ?_)
      rw [wrap64_in (x := m + 1) (by omega) (by omega), wrap64_in (x := m + 1 + 1) (by omega) (by omega), wrap64_in (x := (i : Int) + 1) (by omega) (by omega), Int.toNat_natCast]
      rw [rd_set_self _ i _ (by omega)]
      have e : m + 2 * ((n + 1 : Nat) : Int) = m + 1 + 1 + 2 * n := by omega
      rw [e]
      exact h
    · rw [h2 j (by omega), rd_set_ne _ _ _ _ (by omega), rd_set_ne _ _ _ _ (by omega)]
    · by_cases e : j = 0
      · subst e
        rw [Nat.add_zero, h2 i (by omega), rd_set_self _ i _ (by rw [List.length_set]; omega)]
        congr 1
        omega
      · have := h3 (j - 1) (by omega)
        rw [show i + 1 + (j - 1) = i + j by omega] at this
        rw [this]
        congr 1
        omega
theorem heldW_loop (ys : List (S36)) (hl : ys.length ≤ 1048576) : ∀ (n i : Nat) (m : Int), i + n = ys.length → 0 ≤ m → m ≤ 1 + 2 * i → (∀ j : Nat, j < n → rd_T36 ys (i + j : Nat) = mk2 (m + 2 * j)) →
    Evn (fun k => laws_heldWeatherS.l0 k ys m i) (m + 2 * n) := by
  intro n
  induction n with
  | zero =>
    intro i m hi h0 h1 _
    refine Evn.succ ?_
    simp only [laws_heldWeatherS.l0]
    exact Evn.neg (by omega) (by simpa using Evn.now _)
  | succ n ih =>
    intro i m hi h0 h1 hh
    refine Evn.succ ?_
    simp only [laws_heldWeatherS.l0]
    have e0 := hh 0 (by omega)
    rw [Nat.add_zero, show m + 2 * ((0 : Nat) : Int) = m by omega] at e0
    rw [e0, wrap64_in (x := m + 1) (by omega) (by omega), wrap64_in (x := m + 1 + 1) (by omega) (by omega), wrap64_in (x := (i : Int) + 1) (by omega) (by omega)]
    refine Evn.pos (by omega) (Evn.pos (by omega) (Evn.pos rfl (Evn.pos rfl ?_)))
    have e : m + 2 * ((n + 1 : Nat) : Int) = m + 1 + 1 + 2 * n := by omega
    rw [e]
    exact ih (i + 1) (m + 1 + 1) (by omega) (by omega) (by omega) (fun j hj => by
      have := hh (j + 1) (by omega)
      rw [show i + 1 + j = i + (j + 1) by omega, this]
      congr 1
      omega)
theorem markW2 (xs : List (S36)) (hl : xs.length ≤ 1048576) : ∃ ys, Evn (fun k => laws_markWeatherS.f k xs 1) (1 + 2 * xs.length, ys) ∧ Evn (fun k => laws_heldWeatherS.f k ys 1) (1 + 2 * xs.length) := by
  obtain ⟨ys, h, hy, _, h3⟩ := markW2_loop xs.length hl xs.length 0 1 xs rfl (by omega) (by omega) (by omega)
  refine ⟨ys, by unfold laws_markWeatherS.f; exact h, ?_⟩
  unfold laws_heldWeatherS.f
  have := heldW_loop ys (by omega) ys.length 0 1 (by omega) (by omega) (by omega) (by rw [hy]; exact h3)
  rw [hy] at this
  exact this
end Go.Proofs.YtkebohpfneiimaaDoor.QU
