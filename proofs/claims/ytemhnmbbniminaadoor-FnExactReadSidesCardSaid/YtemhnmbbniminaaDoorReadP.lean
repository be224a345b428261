/- Plain laws: the reference's splitting and its numbers. -/
import Derived.Test.YtemhnmbbniminaaDoorSplits
import Derived.Test.YtemhnmbbniminaaDoorQVx
namespace Go.Proofs.YtemhnmbbniminaaDoor.QV
set_option linter.unusedSimpArgs false
set_option linter.unusedVariables false
open Go.RowKit Go.Proofs.YtemhnmbbniminaaDoor.B Go.Proofs.YtemhnmbbniminaaDoorW.PrintWords Go.Proofs.YtemhnmbbniminaaDoorW.PrintLast Go.Proofs.YtemhnmbbniminaaDoorW.PrintMore

theorem bt_is (s : ByteArray) (i : Nat) (h : i < s.data.toList.length) : bt s (i : Int) = ((s.data.toList[i]).toNat : Int) := by
  have hs : i < s.size := by rw [sz_list] at h; exact h
  have := bt_at s (i : Int) (by rw [Int.toNat_natCast]; exact hs)
  rw [← this]
  congr 1
theorem ext_is (s : ByteArray) (a b : Nat) : (s.extract a b).data.toList = (s.data.toList.take b).drop a := by
  rw [ByteArray.data_extract]
  simp [List.drop_take]
/-- Pieces, the first with something ahead. -/
def splP (c : UInt8) (pre l : List UInt8) : List (List UInt8) := match spl c l with
  | [] => [pre]
  | w :: ws => (pre ++ w) :: ws
theorem splP_nil (c : UInt8) (l : List UInt8) : splP c [] l = spl c l := by
  unfold splP
  cases h : spl c l with
  | nil => exact absurd h (spl_ne c l)
  | cons w ws => rfl
theorem splP_hit (c : UInt8) (pre l : List UInt8) : splP c pre (c :: l) = pre :: spl c l := by
  simp [splP, spl]
theorem splP_miss (c x : UInt8) (pre l : List UInt8) (h : x ≠ c) : splP c pre (x :: l) = splP c (pre ++ [x]) l := by
  unfold splP
  rw [spl, if_neg h]
  cases hs : spl c l with
  | nil => exact absurd hs (spl_ne c l)
  | cons w ws => simp
theorem split_loop (s : ByteArray) (c : UInt8) (hs : s.size ≤ 1048576) : ∀ (n i b : Nat) (acc : List ByteArray), i + n = s.size → b ≤ i → acc.length ≤ i →
    ∃ r, Evn (fun k => spec_l01Split.l0 k s (c.toNat : Int) acc b i) r ∧ r.map (·.data.toList) = acc.map (·.data.toList) ++ splP c ((s.data.toList.take i).drop b) (s.data.toList.drop i) := by
  intro n
  induction n with
  | zero =>
    intro i b acc hi hb ha
    refine ⟨acc ++ [s.extract b s.size], Evn.succ ?_, ?_⟩
    · simp only [spec_l01Split.l0, Int.toNat_natCast]
      exact Evn.neg (by omega) (Evn.pos (by omega) (Evn.pos (by omega) (Evn.pos (by omega) (Evn.now _))))
    · obtain rfl : i = s.size := by omega
      have ed : s.data.toList.drop s.size = [] := List.drop_eq_nil_of_le (by rw [sz_list]; exact Nat.le_refl _)
      rw [List.map_append, List.map_cons, List.map_nil, ext_is, ed]
      simp [splP, spl]
  | succ n ih =>
    intro i b acc hi hb ha
    have hlt : i < s.data.toList.length := by rw [sz_list]; omega
    have hbt := bt_is s i hlt
    have hdr : s.data.toList.drop i = s.data.toList[i] :: s.data.toList.drop (i + 1) := List.drop_eq_getElem_cons hlt
    have w1 : wrap64 ((i : Int) + 1) = ((i + 1 : Nat) : Int) := by rw [wrap64_in (by omega) (by omega)]; omega
    by_cases hc : s.data.toList[i] = c
    · obtain ⟨r, h1, h2⟩ := ih (i + 1) (i + 1) (acc ++ [s.extract b i]) (by omega) (Nat.le_refl _) (by simp; omega)
      refine ⟨r, Evn.succ ?_, ?_⟩
      · simp only [spec_l01Split.l0, w1, hbt, hc, Int.toNat_natCast]
        exact Evn.pos (by omega) (Evn.pos (by omega) (Evn.pos (by first | rfl | trivial) (Evn.pos (by omega) (Evn.pos (by omega) (Evn.pos (by omega) (Evn.pos (by omega) h1))))))
      · rw [h2, hdr, hc, splP_hit, List.map_append, List.map_cons, List.map_nil, ext_is]
        have e : (s.data.toList.take (i + 1)).drop (i + 1) = [] := List.drop_eq_nil_of_le (by rw [List.length_take]; omega)
        rw [e, splP_nil, List.append_assoc]
        rfl
    · obtain ⟨r, h1, h2⟩ := ih (i + 1) b acc (by omega) (by omega) (by omega)
      refine ⟨r, Evn.succ ?_, ?_⟩
      · simp only [spec_l01Split.l0, w1, hbt]
        refine Evn.pos (by omega) (Evn.pos (by omega) (Evn.neg ?_ h1))
        intro e
        exact hc (UInt8.toNat_inj.1 (by omega))
      · rw [h2, hdr, splP_miss c _ _ _ hc]
        congr 2
        rw [List.take_add_one, List.getElem?_eq_getElem hlt, List.drop_append]
        have e : b - (s.data.toList.take i).length = 0 := by rw [List.length_take]; omega
        rw [e]
        rfl
theorem split_is (s : ByteArray) (c : UInt8) (hs : s.size ≤ 1048576) : ∃ r, Evn (fun k => spec_l01Split.f k s (c.toNat : Int)) r ∧ r.map (·.data.toList) = spl c s.data.toList := by
  obtain ⟨r, h1, h2⟩ := split_loop s c hs s.size 0 0 [] (by omega) (Nat.le_refl _) (by simp)
  refine ⟨r, ?_, ?_⟩
  · unfold spec_l01Split.f
    exact h1
  · rw [h2, List.drop_zero, List.take_zero, List.drop_zero, splP_nil]
    rfl
def numA : Option Nat → Int × Bool
  | some u => ((u : Int), true)
  | none => (0, false)
theorem number_loop (s : ByteArray) (hs : s.size ≤ 10) : ∀ (n i acc : Nat), i + n = s.size → acc < 10 ^ i → Evn (fun k => spec_l01Number.l0 k s acc i) (numA (valFrom acc (s.data.toList.drop i))) := by
  intro n
  induction n with
  | zero =>
    intro i acc hi ha
    rw [List.drop_eq_nil_of_le (by rw [sz_list]; omega)]
    refine Evn.succ ?_
    simp only [spec_l01Number.l0]
    exact Evn.neg (by omega) (Evn.now _)
  | succ n ih =>
    intro i acc hi ha
    have hlt : i < s.data.toList.length := by rw [sz_list]; omega
    have hbt := bt_is s i hlt
    have hp : 10 ^ i ≤ 10 ^ 10 := Nat.pow_le_pow_right (by omega) (by omega)
    rw [List.drop_eq_getElem_cons hlt]
    generalize s.data.toList[i] = x at hbt
    have w1 : wrap64 ((i : Int) + 1) = ((i + 1 : Nat) : Int) := by rw [wrap64_in (by omega) (by omega)]; omega
    refine Evn.succ ?_
    simp only [spec_l01Number.l0, hbt, w1, valFrom]
    refine Evn.pos (by omega) (Evn.pos (by omega) ?_)
    by_cases h0 : x.toNat < 48
    · have hd : digit x = false := by
        cases e : digit x with
        | false => rfl
        | true => have := (digit_iff x).1 e; omega
      rw [hd]
      exact Evn.pos (by omega) (Evn.now _)
    · by_cases h1 : x.toNat > 57
      · have hd : digit x = false := by
          cases e : digit x with
          | false => rfl
          | true => have := (digit_iff x).1 e; omega
        rw [hd]
        exact Evn.neg (by omega) (Evn.pos (by omega) (Evn.now _))
      · have hd : digit x = true := (digit_iff x).2 (by omega)
        have h2 := ih (i + 1) (acc * 10 + (x.toNat - 48)) (by omega) (by rw [Nat.pow_succ]; omega)
        have e : wrap64 ((wrap64 (10 * (acc : Int))) + ((((x.toNat : Nat) : Int) - 48) % 256)) = ((acc * 10 + (x.toNat - 48) : Nat) : Int) := by
          rw [wrap64_in (x := 10 * (acc : Int)) (by omega) (by omega), wrap64_in (by omega) (by omega)]
          omega
        rw [hd, if_pos rfl, e]
        exact Evn.neg (by omega) (Evn.neg (by omega) h2)
theorem number_is (s : ByteArray) (hs : s.size ≤ 1048576) : Evn (fun k => spec_l01Number.f k s) (numA (nat1 s.data.toList)) := by
  unfold spec_l01Number.f
  rw [toList_is]
  unfold nat1
  by_cases h0 : s.data.toList = []
  · rw [if_pos (.inl h0)]
    refine Evn.pos h0 (Evn.succ ?_)
    simp only [spec_l01Number.j0]
    exact Evn.pos (by first | rfl | trivial) (Evn.now _)
  refine Evn.neg h0 ?_
  have hz := sz_list s
  by_cases h1 : 10 < s.data.toList.length
  · rw [if_pos (.inr (.inl h1))]
    refine Evn.pos (by omega) (Evn.succ ?_)
    simp only [spec_l01Number.j0]
    exact Evn.pos (by first | rfl | trivial) (Evn.now _)
  refine Evn.neg (by omega) ?_
  have hpos : 0 < s.data.toList.length := List.length_pos_iff.mpr h0
  refine Evn.pos (by omega) ?_
  have hb := bt_is s 0 hpos
  have hh : s.data.toList.head? = some (s.data.toList[0]) := by
    rw [List.head?_eq_getElem?, List.getElem?_eq_getElem hpos]
  have hloop := number_loop s (by omega) s.size 0 0 (by omega) (by simp)
  rw [List.drop_zero] at hloop
  by_cases h48 : s.data.toList[0] = 48
  · have hb2 : bt s 0 = 48 := by
      have : bt s ((0 : Nat) : Int) = 48 := by rw [hb, h48]; rfl
      exact this
    refine Evn.pos hb2 (Evn.succ ?_)
    simp only [spec_l01Number.j0]
    by_cases hl : 1 < s.data.toList.length
    · rw [if_pos (.inr (.inr ⟨by rw [hh, h48], hl⟩)), decide_eq_true (by omega)]
      exact Evn.pos (by first | rfl | trivial) (Evn.now _)
    · rw [if_neg (by rintro (e | e | ⟨_, e⟩); exact h0 e; exact h1 e; exact hl e), decide_eq_false (by omega)]
      exact Evn.neg (by simp) hloop
  · have hb2 : ¬ bt s 0 = 48 := by
      intro e
      apply h48
      apply UInt8.toNat_inj.1
      have e2 : bt s ((0 : Nat) : Int) = 48 := e
      rw [hb] at e2
      have h48n : (48 : UInt8).toNat = 48 := rfl
      omega
    rw [if_neg (by rintro (e | e | ⟨e, _⟩); exact h0 e; exact h1 e; rw [hh] at e; exact h48 (Option.some.inj e))]
    refine Evn.neg hb2 (Evn.succ ?_)
    simp only [spec_l01Number.j0]
    exact Evn.neg (by simp) hloop
end Go.Proofs.YtemhnmbbniminaaDoor.QV
