/- Plain laws: letters and codes of ways. -/
import Derived.Test.YtlhnjaaapnkgiaaEv
import Derived.Test.YtlhnjaaapnkgiaaQZx
import Derived.Lib.Bytealg
namespace Go.Proofs.Ytlhnjaaapnkgiaa.QZ
set_option linter.unusedSimpArgs false
set_option linter.unusedVariables false
open Go.RowKit Go.Proofs.Ytlhnjaaapnkgiaa.B Go.Proofs.YtlhnjaaapnkgiaaW.PrintWords Go.Proofs.YtlhnjaaapnkgiaaW.PrintLast Go.Proofs.YtlhnjaaapnkgiaaW.PrintMore

/-- The place of a letter among four, or -1. -/
def letter (b : Int) : Int := if b = 78 then 0 else if b = 87 then 1 else if b = 69 then 2 else if b = 83 then 3 else -1
theorem letter_in (b : Int) : -1 ≤ letter b ∧ letter b ≤ 3 := by
  unfold letter
  repeat' split
  all_goals omega
theorem letter_index : ∀ n : Fin 256, Lib.indexByte [78, 87, 69, 83] (n.val.toUInt8) = letter n.val := by decide +kernel
theorem index_letter (b : Int) (h0 : 0 ≤ b) (h1 : b ≤ 255) : strings_IndexByte.f (⟨#[78, 87, 69, 83]⟩ : ByteArray) b = some (letter b) := by
  unfold strings_IndexByte.f stringslite_IndexByte.f
  simp only [Option.bind_some]
  have := letter_index ⟨b.toNat, by omega⟩
  simp only at this
  rw [show ((b.toNat : Nat) : Int) = b by omega] at this
  exact congrArg some this
theorem sLetter (b : Int) : Evn (fun k => spec_l02Letter.f k b) (letter b) := by
  unfold spec_l02Letter.f letter
  have b0 : bt (⟨#[78, 87, 69, 83]⟩ : ByteArray) 0 = 78 := by rfl
  have b1 : bt (⟨#[78, 87, 69, 83]⟩ : ByteArray) 1 = 87 := by rfl
  have b2 : bt (⟨#[78, 87, 69, 83]⟩ : ByteArray) 2 = 69 := by rfl
  have b3 : bt (⟨#[78, 87, 69, 83]⟩ : ByteArray) 3 = 83 := by rfl
  refine Evn.succ ?_
  simp only [spec_l02Letter.l0, b0]
  refine Evn.pos (by omega) (Evn.pos (by omega) ?_)
  by_cases h0 : b = 78
  · rw [if_pos h0]; exact Evn.pos h0.symm (Evn.now _)
  rw [if_neg h0]
  refine Evn.neg (fun e => h0 e.symm) ?_
  rw [show wrap64 ((0 : Int) + 1) = 1 by rw [wrap64_in (by omega) (by omega)]; rfl]
  refine Evn.succ ?_
  simp only [spec_l02Letter.l0, b1]
  refine Evn.pos (by omega) (Evn.pos (by omega) ?_)
  by_cases h1 : b = 87
  · rw [if_pos h1]; exact Evn.pos h1.symm (Evn.now _)
  rw [if_neg h1]
  refine Evn.neg (fun e => h1 e.symm) ?_
  rw [show wrap64 ((1 : Int) + 1) = 2 by rw [wrap64_in (by omega) (by omega)]; rfl]
  refine Evn.succ ?_
  simp only [spec_l02Letter.l0, b2]
  refine Evn.pos (by omega) (Evn.pos (by omega) ?_)
  by_cases h2 : b = 69
  · rw [if_pos h2]; exact Evn.pos h2.symm (Evn.now _)
  rw [if_neg h2]
  refine Evn.neg (fun e => h2 e.symm) ?_
  rw [show wrap64 ((2 : Int) + 1) = 3 by rw [wrap64_in (by omega) (by omega)]; rfl]
  refine Evn.succ ?_
  simp only [spec_l02Letter.l0, b3]
  refine Evn.pos (by omega) (Evn.pos (by omega) ?_)
  by_cases h3 : b = 83
  · rw [if_pos h3]; exact Evn.pos h3.symm (Evn.now _)
  rw [if_neg h3]
  refine Evn.neg (fun e => h3 e.symm) ?_
  rw [show wrap64 ((3 : Int) + 1) = 4 by rw [wrap64_in (by omega) (by omega)]; rfl]
  refine Evn.succ ?_
  simp only [spec_l02Letter.l0]
  exact Evn.neg (by omega) (Evn.now _)
/-- Both tell the same code of a way; where it is fine every letter is one of the four. -/
theorem way_loop (s : ByteArray) (hs : s.size ≤ 200) : ∀ (n i : Nat), i + n = s.size → ∃ c, Evn (fun k => spec_l02Way.l0 k s i) c ∧ Evn (fun k => impl_wayCode.l0 k s (s.size : Int) i) c ∧ (c = 0 → ∀ j : Nat, i ≤ j → j < s.size → 0 ≤ letter (bt s j)) := by
  intro n
  induction n with
  | zero =>
    intro i hi
    refine ⟨0, Evn.succ ?_, Evn.succ ?_, fun _ j h1 h2 => by omega⟩
    · simp only [spec_l02Way.l0]
      exact Evn.neg (by omega) (Evn.now _)
    · simp only [impl_wayCode.l0]
      exact Evn.neg (by omega) (Evn.now _)
  | succ n ih =>
    intro i hi
    have hr := bt_range s (i : Int)
    have w1 : wrap64 ((i : Int) + 1) = ((i + 1 : Nat) : Int) := by rw [wrap64_in (by omega) (by omega)]; omega
    by_cases hl : letter (bt s i) < 0
    · refine ⟨5, Evn.succ ?_, Evn.succ ?_, fun h => by omega⟩
      · simp only [spec_l02Way.l0]
        exact Evn.pos (by omega) (Evn.pos (by omega) (Evn.bind (sLetter _) (Evn.pos hl (Evn.now _))))
      · simp only [impl_wayCode.l0, index_letter _ hr.1 hr.2, Option.bind_some]
        exact Evn.pos (by omega) (Evn.pos (by omega) (Evn.pos (by omega) (Evn.pos hl (Evn.now _))))
    · obtain ⟨c, h1, h2, h3⟩ := ih (i + 1) (by omega)
      refine ⟨c, Evn.succ ?_, Evn.succ ?_, fun h j j1 j2 => ?_⟩
      · simp only [spec_l02Way.l0, w1]
        exact Evn.pos (by omega) (Evn.pos (by omega) (Evn.bind (sLetter _) (Evn.neg hl h1)))
      · simp only [impl_wayCode.l0, index_letter _ hr.1 hr.2, Option.bind_some, w1]
        exact Evn.pos (by omega) (Evn.pos (by omega) (Evn.pos (by omega) (Evn.neg hl h2)))
      · by_cases e : j = i
        · subst e; omega
        · exact h3 h j (by omega) j2
theorem way (s : ByteArray) : ∃ c, Evn (fun k => spec_l02Way.f k s) c ∧ Evn (fun k => impl_wayCode.f k s) c ∧ (c = 0 → s.size ≤ 200 ∧ ∀ j : Nat, j < s.size → 0 ≤ letter (bt s j)) := by
  unfold spec_l02Way.f impl_wayCode.f
  by_cases h : (s.size : Int) > 200
  · exact ⟨3, Evn.pos h (Evn.now _), Evn.pos h (Evn.now _), fun e => by omega⟩
  · obtain ⟨c, h1, h2, h3⟩ := way_loop s (by omega) s.size 0 (by omega)
    exact ⟨c, Evn.neg h h1, Evn.neg h h2, fun e => ⟨by omega, fun j hj => h3 e j (by omega) hj⟩⟩
end Go.Proofs.Ytlhnjaaapnkgiaa.QZ
