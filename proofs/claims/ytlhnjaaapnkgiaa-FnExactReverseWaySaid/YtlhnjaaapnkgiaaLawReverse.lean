/- Plain laws: ReverseWay. -/
import Derived.Test.YtlhnjaaapnkgiaaWays
namespace Go.Proofs.Ytlhnjaaapnkgiaa.QR
set_option linter.unusedSimpArgs false
set_option linter.unusedVariables false
open Go.RowKit Go.Proofs.Ytlhnjaaapnkgiaa.B Go.Proofs.YtlhnjaaapnkgiaaW.PrintWords Go.Proofs.YtlhnjaaapnkgiaaW.PrintLast Go.Proofs.YtlhnjaaapnkgiaaW.PrintMore

/-- The letter of the other side. -/
def other (l : Int) : Int := bt (⟨#[83, 69, 87, 78]⟩ : ByteArray) l
theorem opp_is (b : Int) (h0 : 0 ≤ b) (h1 : b ≤ 255) (hl : 0 ≤ letter b) : impl_opposite.f b = some (other (letter b)) := by
  unfold impl_opposite.f
  rw [index_letter b h0 h1]
  simp only [Option.bind_some]
  have := letter_in b
  rw [if_pos hl, if_pos (by omega)]
  rfl
theorem cut_is (l : Int) (h0 : 0 ≤ l) (h1 : l ≤ 3) : ((⟨#[78, 87, 69, 83]⟩ : ByteArray).extract (3 - l).toNat (3 - l + 1).toNat) = strOfNums [other l] := by
  have : l = 0 ∨ l = 1 ∨ l = 2 ∨ l = 3 := by omega
  rcases this with rfl | rfl | rfl | rfl <;> rfl
theorem nums_app (xs ys : List Int) : strOfNums (xs ++ ys) = strOfNums xs ++ strOfNums ys := by
  apply ByteArray.ext
  rw [ByteArray.data_append]
  apply Array.toList_inj.1
  simp [strOfNums]
theorem reverse_loop (s : ByteArray) (hs : s.size ≤ 200) (hl : ∀ j : Nat, j < s.size → 0 ≤ letter (bt s j)) : ∀ (n : Nat) (acc : List Int), n ≤ s.size → acc.length + n ≤ 200 →
    ∃ r, Evn (fun k => spec_ReverseWay.l0 k s (strOfNums acc) ((n : Int) - 1)) (r, 0) ∧ Evn (fun k => impl_ReverseWay.l0 k s acc ((n : Int) - 1)) (r, 0) := by
  intro n
  induction n with
  | zero =>
    intro acc hn ha
    refine ⟨strOfNums acc, Evn.succ ?_, Evn.succ ?_⟩
    · simp only [spec_ReverseWay.l0]
      exact Evn.neg (by omega) (Evn.now _)
    · simp only [impl_ReverseWay.l0]
      exact Evn.neg (by omega) (Evn.now _)
  | succ n ih =>
    intro acc hn ha
    have e : (((n + 1 : Nat) : Int) - 1) = (n : Int) := by omega
    rw [e]
    have hr := bt_range s (n : Int)
    have hl0 := hl n (by omega)
    have hl1 := letter_in (bt s n)
    obtain ⟨l, hll⟩ : ∃ l, l = letter (bt s n) := ⟨_, rfl⟩
    obtain ⟨r, h1, h2⟩ := ih (acc ++ [other l]) (by omega) (by simp; omega)
    rw [nums_app] at h1
    have w1 : wrap64 ((n : Int) - 1) = (n : Int) - 1 := wrap64_in (by omega) (by omega)
    have w2 : wrap64 (3 - l) = 3 - l := wrap64_in (by omega) (by omega)
    have w3 : wrap64 (3 - l + 1) = 3 - l + 1 := wrap64_in (by omega) (by omega)
    have hc := cut_is l (by omega) (by omega)
    have hz : (strOfNums acc).size = acc.length := strOfNums_size acc
    have hz1 : (strOfNums [other l]).size = 1 := strOfNums_size _
    refine ⟨r, Evn.succ ?_, Evn.succ ?_⟩
    · simp only [spec_ReverseWay.l0]
      refine Evn.pos (by omega) (Evn.pos (by omega) (Evn.pos (by omega) (Evn.bind (sLetter _) ?_)))
      simp only [← hll, w2, w3, hc, w1]
      exact Evn.pos (by omega) (Evn.pos (by omega) (Evn.pos (by omega) (Evn.pos (by omega) h1)))
    · simp only [impl_ReverseWay.l0, opp_is _ hr.1 hr.2 hl0, Option.bind_some, w1]
      rw [hll] at h2
      exact Evn.pos (by omega) (Evn.pos (by omega) (Evn.pos (by omega) (Evn.pos (by omega) h2)))
theorem reverseWay (s : ByteArray) : ∃ k, laws_FnExactReverseWay.f k s = some true := by
  refine Evn.ex ?_
  unfold laws_FnExactReverseWay.f
  by_cases h : (s.size : Int) > 1048576
  · exact Evn.pos h (Evn.now _)
  refine Evn.neg h ?_
  obtain ⟨c, h1, h2, h3⟩ := way s
  have both : ∃ r q, Evn (fun k => spec_ReverseWay.f k s) (r, q) ∧ Evn (fun k => impl_ReverseWay.f k s) (r, q) := by
    unfold spec_ReverseWay.f impl_ReverseWay.f
    by_cases h0 : c = 0
    · obtain ⟨a, b⟩ := h3 h0
      have w1 : wrap64 ((s.size : Int) - 1) = (s.size : Int) - 1 := wrap64_in (by omega) (by omega)
      obtain ⟨r, e1, e2⟩ := reverse_loop s a b s.size [] (by omega) (by simp; omega)
      refine ⟨r, 0, Evn.bind h1 (Evn.pos h0 ?_), Evn.bind h2 (Evn.pos h0 ?_)⟩
      · rw [w1]; exact e1
      · rw [w1]; exact e2
    · exact ⟨⟨#[]⟩, c, Evn.bind h1 (Evn.neg h0 (Evn.now _)), Evn.bind h2 (Evn.neg h0 (Evn.now _))⟩
  obtain ⟨r, q, e1, e2⟩ := both
  exact Evn.bind e1 (Evn.bind e2 (Evn.pos rfl (Evn.pos rfl (Evn.now _))))
end Go.Proofs.Ytlhnjaaapnkgiaa.QR
namespace Go.Proofs.Ytlhnjaaapnkgiaa.Pure
open Go.RowKit Go.Proofs.Ytlhnjaaapnkgiaa.QR
theorem FnExactReverseWay : laws_FnExactReverseWay.Pure := fun s _ => reverseWay s
end Go.Proofs.Ytlhnjaaapnkgiaa.Pure
