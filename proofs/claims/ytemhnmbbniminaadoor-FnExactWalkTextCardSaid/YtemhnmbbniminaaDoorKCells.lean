/- Plain laws: lists of cells laid anew, compared. -/
import Derived.Test.YtemhnmbbniminaaDoorEv
import Derived.Test.YtemhnmbbniminaaDoorQTx
namespace Go.Proofs.YtemhnmbbniminaaDoor.QT
set_option linter.unusedSimpArgs false
set_option linter.unusedVariables false
open Go.RowKit Go.Proofs.YtemhnmbbniminaaDoor.B Go.Proofs.YtemhnmbbniminaaDoorW.PrintWords Go.Proofs.YtemhnmbbniminaaDoorW.PrintLast Go.Proofs.YtemhnmbbniminaaDoorW.PrintMore
theorem toW_loop (xs : List (S53)) (hl : xs.length ≤ 1048576) : ∀ (n : Nat) (i : Nat) (acc : List (S51)), i + n = xs.length → acc.length = xs.length →
    ∃ r, Evn (fun k => laws_toCellS.l0 k xs acc i) r ∧ r.length = xs.length := by
  intro n
  induction n with
  | zero =>
    intro i acc hi ha
    refine ⟨acc, Evn.succ ?_, ha⟩
    simp only [laws_toCellS.l0]
    exact Evn.neg (by omega) (Evn.now _)
  | succ n ih =>
    intro i acc hi ha
    obtain ⟨r, h, hr⟩ := ih (i + 1) (acc.set (i : Int).toNat ⟨(rd_T53 xs i).f0, (rd_T53 xs i).f1⟩) (by omega) (by rw [List.length_set]; exact ha)
    refine ⟨r, Evn.succ ?_, hr⟩
    simp only [laws_toCellS.l0, laws_toCell.f, Option.bind_some]
    refine Evn.pos (by omega) (Evn.pos (by omega) (Evn.pos (by omega) ?_))
    rw [wrap64_in (by omega) (by omega)]
    simpa using h
theorem toW (xs : List (S53)) (hl : xs.length ≤ 1048576) : ∃ r, Evn (fun k => laws_toCellS.f k xs) r ∧ r.length = xs.length := by
  obtain ⟨r, h, hr⟩ := toW_loop xs hl xs.length 0 (List.replicate ((xs.length : Int)).toNat z51) (by omega) (by simp)
  refine ⟨r, ?_, hr⟩
  unfold laws_toCellS.f
  exact Evn.pos (by omega) (Evn.pos (by omega) h)
theorem eqW_loop (xs : List (S51)) (hl : xs.length ≤ 1048576) : ∀ (n : Nat) (i : Nat), i + n = xs.length → Evn (fun k => laws_eqCellS.l0 k xs xs i) true := by
  intro n
  induction n with
  | zero =>
    intro i hi
    refine Evn.succ ?_
    simp only [laws_eqCellS.l0]
    exact Evn.neg (by omega) (Evn.now _)
  | succ n ih =>
    intro i hi
    refine Evn.succ ?_
    simp only [laws_eqCellS.l0, laws_eqCell.f, if_true, Option.bind_some]
    refine Evn.pos (by omega) (Evn.pos (by omega) (Evn.pos (by omega) ?_))
    rw [wrap64_in (by omega) (by omega)]
    simpa using ih (i + 1) (by omega)
theorem eqW (xs : List (S51)) (hl : xs.length ≤ 1048576) : Evn (fun k => laws_eqCellS.f k xs xs) true := by
  unfold laws_eqCellS.f
  exact Evn.pos rfl (by simpa using eqW_loop xs hl xs.length 0 (by omega))
theorem sz (xs : List (S53)) (a : Int) (ha : 0 ≤ a) (ha2 : a ≤ 1048576) (hx : xs.length ≤ 140737488351232) : laws_szCellS.f xs a = some (if a - (xs.length : Int) < 0 then -1 else a - (xs.length : Int)) := by
  unfold laws_szCellS.f
  rw [wrap64_in (by omega) (by omega)]
  split <;> rfl
end Go.Proofs.YtemhnmbbniminaaDoor.QT
