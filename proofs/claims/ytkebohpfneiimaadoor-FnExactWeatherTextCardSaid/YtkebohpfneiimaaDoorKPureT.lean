/- Plain laws: lists of days laid anew, compared, marked; numbers compared, marked, held. -/
import Derived.Test.YtkebohpfneiimaaDoorEv
import Derived.Test.YtkebohpfneiimaaDoorQTx
namespace Go.Proofs.YtkebohpfneiimaaDoor.QT
set_option linter.unusedSimpArgs false
set_option linter.unusedVariables false
open Go.RowKit Go.Proofs.YtkebohpfneiimaaDoor.B Go.Proofs.YtkebohpfneiimaaDoorW.PrintWords Go.Proofs.YtkebohpfneiimaaDoorW.PrintLast Go.Proofs.YtkebohpfneiimaaDoorW.PrintMore

theorem toW_loop (xs : List (S38)) (hl : xs.length ≤ 1048576) : ∀ (n : Nat) (i : Nat) (acc : List (S36)), i + n = xs.length → acc.length = xs.length →
    ∃ r, Evn (fun k => laws_toWeatherS.l0 k xs acc i) r ∧ r.length = xs.length := by
  intro n
  induction n with
  | zero =>
    intro i acc hi ha
    refine ⟨acc, Evn.succ ?_, ha⟩
    simp only [laws_toWeatherS.l0]
    exact Evn.neg (by omega) (Evn.now _)
  | succ n ih =>
    intro i acc hi ha
    obtain ⟨r, h, hr⟩ := ih (i + 1) (acc.set (i : Int).toNat ⟨(rd_T38 xs i).f0, (rd_T38 xs i).f1⟩) (by omega) (by rw [List.length_set]; exact ha)
    refine ⟨r, Evn.succ ?_, hr⟩
    simp only [laws_toWeatherS.l0, laws_toWeather.f, Option.bind_some]
    refine Evn.pos (by omega) (Evn.pos (by omega) (Evn.pos (by omega) ?_))
    rw [wrap64_in (by omega) (by omega)]
    simpa using h
theorem toW (xs : List (S38)) (hl : xs.length ≤ 1048576) : ∃ r, Evn (fun k => laws_toWeatherS.f k xs) r ∧ r.length = xs.length := by
  obtain ⟨r, h, hr⟩ := toW_loop xs hl xs.length 0 (List.replicate ((xs.length : Int)).toNat z36) (by omega) (by simp)
  refine ⟨r, ?_, hr⟩
  unfold laws_toWeatherS.f
  exact Evn.pos (by omega) (Evn.pos (by omega) h)
theorem eqW_loop (xs : List (S36)) (hl : xs.length ≤ 1048576) : ∀ (n : Nat) (i : Nat), i + n = xs.length → Evn (fun k => laws_eqWeatherS.l0 k xs xs i) true := by
  intro n
  induction n with
  | zero =>
    intro i hi
    refine Evn.succ ?_
    simp only [laws_eqWeatherS.l0]
    exact Evn.neg (by omega) (Evn.now _)
  | succ n ih =>
    intro i hi
    refine Evn.succ ?_
    simp only [laws_eqWeatherS.l0, laws_eqWeather.f, if_true, Option.bind_some]
    refine Evn.pos (by omega) (Evn.pos (by omega) (Evn.pos (by omega) ?_))
    rw [wrap64_in (by omega) (by omega)]
    simpa using ih (i + 1) (by omega)
theorem eqW (xs : List (S36)) (hl : xs.length ≤ 1048576) : Evn (fun k => laws_eqWeatherS.f k xs xs) true := by
  unfold laws_eqWeatherS.f
  exact Evn.pos rfl (by simpa using eqW_loop xs hl xs.length 0 (by omega))
theorem ok_loop (xs : List (S36)) (hl : xs.length ≤ 1048576) : ∀ (n i : Nat), i + n = xs.length → ∃ b, Evn (fun k => spec_l03Ok.l0 k xs i) b := by
  intro n
  induction n with
  | zero =>
    intro i hi
    refine ⟨decide ((xs.length : Int) ≤ 30), Evn.succ ?_⟩
    simp only [spec_l03Ok.l0]
    exact Evn.neg (by omega) (Evn.now _)
  | succ n ih =>
    intro i hi
    obtain ⟨b, h⟩ := ih (i + 1) (by omega)
    cases hd : day_ (rd_T36 xs i) with
    | true =>
      refine ⟨b, Evn.succ ?_⟩
      simp only [spec_l03Ok.l0, day_spec, hd, Option.bind_some, if_true]
      refine Evn.pos (by omega) (Evn.pos (by omega) ?_)
      rw [wrap64_in (by omega) (by omega)]
      simpa using h
    | false =>
      refine ⟨false, Evn.succ ?_⟩
      simp only [spec_l03Ok.l0, day_spec, hd, Option.bind_some]
      exact Evn.pos (by omega) (Evn.pos (by omega) (Evn.neg (by decide) (Evn.now _)))
theorem ok (xs : List (S36)) (hl : xs.length ≤ 1048576) : ∃ b, Evn (fun k => spec_l03Ok.f k xs) b := by
  obtain ⟨b, h⟩ := ok_loop xs hl xs.length 0 (by omega)
  exact ⟨b, by unfold spec_l03Ok.f; simpa using h⟩
theorem sz (xs : List (S38)) (a : Int) (ha : 0 ≤ a) (ha2 : a ≤ 1048576) (hx : xs.length ≤ 140737488351232) : laws_szWeatherS.f xs a = some (if a - (xs.length : Int) < 0 then -1 else a - (xs.length : Int)) := by
  unfold laws_szWeatherS.f
  rw [wrap64_in (by omega) (by omega)]
  split <;> rfl
theorem ok_days {xs : List (S36)} (h : Evn (fun k => spec_l03Ok.f k xs) true) : (xs.length : Int) ≤ 30 ∧ ∀ j : Int, 0 ≤ j → j < xs.length → day_ (rd_T36 xs j) = true := by
  obtain ⟨k, hk⟩ := h.ex
  unfold spec_l03Ok.f at hk
  rcases ok_tells xs k 0 true (by omega) (by omega) hk with ⟨h, _⟩ | ⟨h, h2⟩
  · cases h
  · exact ⟨of_decide_eq_true h.symm, h2⟩

end Go.Proofs.YtkebohpfneiimaaDoor.QT
