/- Plain laws: lists of numbers laid anew, compared, marked, held. -/
import Derived.Test.YtohooogfaeogeaaEv
import Derived.Test.YtohooogfaeogeaaQCx
namespace Go.Proofs.Ytohooogfaeogeaa.QC
set_option linter.unusedSimpArgs false
set_option linter.unusedVariables false
open Go.RowKit Go.Proofs.Ytohooogfaeogeaa.B Go.Proofs.YtohooogfaeogeaaW.PrintWords Go.Proofs.YtohooogfaeogeaaW.PrintLast Go.Proofs.YtohooogfaeogeaaW.PrintMore
theorem eqI_loop (xs : List Int) (hl : xs.length ≤ 1048576) : ∀ (n : Nat) (i : Nat), i + n = xs.length → Evn (fun k => laws_eqInt64S.l0 k xs xs i) true := by
  intro n
  induction n with
  | zero =>
    intro i hi
    refine Evn.succ ?_
    simp only [laws_eqInt64S.l0]
    exact Evn.neg (by omega) (Evn.now _)
  | succ n ih =>
    intro i hi
    refine Evn.succ ?_
    simp only [laws_eqInt64S.l0, if_true]
    refine Evn.pos (by omega) (Evn.pos (by omega) (Evn.pos (by omega) ?_))
    rw [wrap64_in (by omega) (by omega)]
    simpa using ih (i + 1) (by omega)
theorem eqI (xs : List Int) (hl : xs.length ≤ 1048576) : Evn (fun k => laws_eqInt64S.f k xs xs) true := by
  unfold laws_eqInt64S.f
  exact Evn.pos rfl (by simpa using eqI_loop xs hl xs.length 0 (by omega))
theorem markI_loop (xs0 : List Int) (hl : xs0.length ≤ 1048576) : ∀ (n i : Nat) (m : Int) (xs : List Int), xs.length = xs0.length → i + n = xs.length → 0 ≤ m → m ≤ 2097152 + i →
    ∃ ys, Evn (fun k => laws_markInt64S.l0 k xs m i) (m + n, ys) ∧ ys.length = xs.length ∧ (∀ j, j < i → ys.getD j 0 = xs.getD j 0) ∧ ∀ j, j < n → ys.getD (i + j) 0 = m + j := by
  intro n
  induction n with
  | zero =>
    intro i m xs hx hi h0 h1
    refine ⟨xs, Evn.succ ?_, rfl, fun _ _ => rfl, fun j hj => by omega⟩
    simp only [laws_markInt64S.l0]
    exact Evn.neg (by omega) (by simpa using Evn.now _)
  | succ n ih =>
    intro i m xs hx hi h0 h1
    obtain ⟨ys, h, hy, h2, h3⟩ := ih (i + 1) (m + 1) (xs.set i m) (by rw [List.length_set]; exact hx) (by rw [List.length_set]; omega) (by omega) (by omega)
    rw [List.length_set] at hy
    refine ⟨ys, Evn.succ ?_, hy, fun j hj => ?_, fun j hj => ?_⟩
    · simp only [laws_markInt64S.l0]
      refine Evn.pos (by omega) (Evn.pos (by omega) ?_)
      rw [wrap64_in (by omega) (by omega), wrap64_in (by omega) (by omega)]
      have e : m + (n + 1 : Nat) = m + 1 + n := by omega
      rw [e]
      simpa using h
    · rw [h2 j (by omega)]
      simp only [List.getD_eq_getElem?_getD]
      rw [List.getElem?_set_ne (by omega)]
    · by_cases e : j = 0
      · subst e
        rw [Nat.add_zero, h2 i (by omega)]
        simp only [List.getD_eq_getElem?_getD]
        rw [List.getElem?_set_self (by omega)]
        simp
      · have := h3 (j - 1) (by omega)
        rw [show i + 1 + (j - 1) = i + j by omega] at this
        rw [this]
        omega
theorem heldI_loop (ys : List Int) (hl : ys.length ≤ 1048576) : ∀ (n i : Nat) (m : Int), i + n = ys.length → 0 ≤ m → m ≤ 2097152 + i → (∀ j, j < n → ys.getD (i + j) 0 = m + j) →
    Evn (fun k => laws_heldInt64S.l0 k ys m i) (m + n) := by
  intro n
  induction n with
  | zero =>
    intro i m hi h0 h1 _
    refine Evn.succ ?_
    simp only [laws_heldInt64S.l0]
    exact Evn.neg (by omega) (by simpa using Evn.now _)
  | succ n ih =>
    intro i m hi h0 h1 hh
    refine Evn.succ ?_
    simp only [laws_heldInt64S.l0]
    have e0 := hh 0 (by omega)
    refine Evn.pos (by omega) (Evn.pos (by omega) (Evn.pos (by unfold rd; simpa using e0) ?_))
    rw [wrap64_in (by omega) (by omega), wrap64_in (by omega) (by omega)]
    have e : m + (n + 1 : Nat) = m + 1 + n := by omega
    rw [e]
    simpa using ih (i + 1) (m + 1) (by omega) (by omega) (by omega) (fun j hj => by
      have := hh (j + 1) (by omega)
      rw [show i + 1 + j = i + (j + 1) by omega, this]; omega)
theorem markI (xs : List Int) (hl : xs.length ≤ 1048576) : ∃ ys, Evn (fun k => laws_markInt64S.f k xs 1) (1 + xs.length, ys) ∧ Evn (fun k => laws_heldInt64S.f k ys 1) (1 + xs.length) := by
  obtain ⟨ys, h, hy, _, h3⟩ := markI_loop xs hl xs.length 0 1 xs rfl (by omega) (by omega) (by omega)
  refine ⟨ys, by unfold laws_markInt64S.f; simpa using h, ?_⟩
  unfold laws_heldInt64S.f
  have := heldI_loop ys (by omega) ys.length 0 1 (by omega) (by omega) (by omega) (by rw [hy]; exact h3)
  rw [hy] at this
  simpa using this
theorem toI_loop (xs : List Int) (hl : xs.length ≤ 1048576) : ∀ (n i : Nat) (acc : List Int), i + n = xs.length → acc.length = xs.length → (∀ j, j < i → acc.getD j 0 = xs.getD j 0) →
    Evn (fun k => laws_toInt64S.l0 k xs acc i) xs := by
  intro n
  induction n with
  | zero =>
    intro i acc hi ha hh
    refine Evn.succ ?_
    simp only [laws_toInt64S.l0]
    have e : acc = xs := List.ext_getElem ha (fun j h1 h2 => by
      have := hh j (by omega)
      simpa [List.getD_eq_getElem?_getD, h1, h2] using this)
    rw [e]
    exact Evn.neg (by omega) (Evn.now _)
  | succ n ih =>
    intro i acc hi ha hh
    refine Evn.succ ?_
    simp only [laws_toInt64S.l0]
    refine Evn.pos (by omega) (Evn.pos (by omega) (Evn.pos (by omega) ?_))
    rw [wrap64_in (by omega) (by omega)]
    simpa using ih (i + 1) (acc.set i (rd xs i)) (by omega) (by rw [List.length_set]; exact ha) (fun j hj => by
      by_cases e : j = i
      · subst e
        simp only [List.getD_eq_getElem?_getD]
        rw [List.getElem?_set_self (by omega)]
        simp [rd, List.getD_eq_getElem?_getD]
      · simp only [List.getD_eq_getElem?_getD]
        rw [List.getElem?_set_ne (by omega)]
        simpa [List.getD_eq_getElem?_getD] using hh j (by omega))
theorem toI (xs : List Int) (hl : xs.length ≤ 1048576) : Evn (fun k => laws_toInt64S.f k xs) xs := by
  unfold laws_toInt64S.f
  exact Evn.pos (by omega) (Evn.pos (by omega) (by simpa using toI_loop xs hl xs.length 0 (List.replicate ((xs.length : Int)).toNat 0) (by omega) (by simp) (fun j hj => by omega)))
end Go.Proofs.Ytohooogfaeogeaa.QC
