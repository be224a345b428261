/- Plain laws: what WalkText writes. -/
import Derived.Test.YtemhnmbbniminaaDoorTexts
import Derived.Test.YtemhnmbbniminaaDoorQUx
namespace Go.Proofs.YtemhnmbbniminaaDoor.QU
set_option linter.unusedSimpArgs false
set_option linter.unusedVariables false
open Go.RowKit Go.Proofs.YtemhnmbbniminaaDoor.B Go.Proofs.YtemhnmbbniminaaDoorW.PrintWords Go.Proofs.YtemhnmbbniminaaDoorW.PrintLast Go.Proofs.YtemhnmbbniminaaDoorW.PrintMore

/-- A cell's place, as it is written. -/
def pcW (x : S51) : ByteArray := (dB (wrap64 x.f0) ++ (⟨#[44]⟩ : ByteArray)) ++ dB (wrap64 x.f1)
def okW (x : S51) : Bool := (decide (0 ≤ wrap64 x.f0) && decide (wrap64 x.f0 ≤ 9)) && (decide (0 ≤ wrap64 x.f1) && decide (wrap64 x.f1 ≤ 9))
theorem okW_in {x : S51} (h : okW x = true) : (0 ≤ wrap64 x.f0 ∧ wrap64 x.f0 ≤ 9) ∧ 0 ≤ wrap64 x.f1 ∧ wrap64 x.f1 ≤ 9 := by
  unfold okW at h
  simpa [and_assoc] using h
theorem size44 : (⟨#[44]⟩ : ByteArray).size = 1 := rfl
theorem size32 : (⟨#[32]⟩ : ByteArray).size = 1 := rfl
theorem pcW_size {x : S51} (h : okW x = true) : (pcW x).size ≤ 7 := by
  obtain ⟨h1, h2⟩ := okW_in h
  unfold pcW
  rw [ByteArray.size_append, ByteArray.size_append, size44]
  have := dB_size (wrap64 x.f0) (by omega)
  have := dB_size (wrap64 x.f1) (by omega)
  omega
theorem big_1 {p : ByteArray} (h : p.size ≤ 3) : p.size + 1 ≤ 9223372036854775807 := by omega
theorem big_2 {p q : ByteArray} (h : p.size ≤ 3) (h' : q.size ≤ 3) : (p ++ (⟨#[44]⟩ : ByteArray)).size + q.size ≤ 9223372036854775807 := by
  rw [ByteArray.size_append, size44]
  omega
theorem big_3 {p : ByteArray} (h : p.size ≤ 201 * 8) : p.size + 1 ≤ 9223372036854775807 := by omega
theorem big_4 {p q : ByteArray} (h : p.size ≤ 201 * 8) (h' : q.size ≤ 7) : (p ++ (⟨#[32]⟩ : ByteArray)).size + q.size ≤ 9223372036854775807 := by
  rw [ByteArray.size_append, size32]
  omega
theorem big_5 {p : ByteArray} (h' : p.size ≤ 7) : (⟨#[]⟩ : ByteArray).size + p.size ≤ 9223372036854775807 := by
  have : (⟨#[]⟩ : ByteArray).size = 0 := rfl
  omega
theorem take_ne {α β : Type} (f : α → β) (xs : List α) (i : Nat) (h : 0 < i) (hi : i ≤ xs.length) : (xs.take i).map f ≠ [] := by
  intro e
  have := congrArg List.length e
  rw [List.length_map, List.length_take, List.length_nil] at this
  omega
theorem within_is (n : Int) : impl_within.f n 0 9 = some (decide (0 ≤ n) && decide (n ≤ 9)) := by
  unfold impl_within.f
  by_cases h : 0 ≤ n
  · rw [if_pos h]; simp [h]
  · rw [if_neg h]; simp [h]
theorem dec_is (n : Int) (h : 0 ≤ n ∧ n ≤ 9) : impl_dec.f n = some (dB n) := by
  unfold impl_dec.f
  rw [if_pos (by omega)]
  rfl
theorem drop_S (xs : List (S51)) (i : Nat) (h : i < xs.length) : xs.drop i = rd_T51 xs i :: xs.drop (i + 1) := by
  rw [List.drop_eq_getElem_cons h]
  unfold rd_T51
  simp [List.getElem?_eq_getElem h]
theorem take_S (xs : List (S51)) (i : Nat) (h : i < xs.length) : xs.take (i + 1) = xs.take i ++ [rd_T51 xs i] := by
  rw [List.take_add_one, List.getElem?_eq_getElem h]
  unfold rd_T51
  simp [List.getElem?_eq_getElem h]
/-- What both answer. -/
def ansW (xs : List (S51)) : ByteArray := if xs.all okW && decide (xs.length ≤ 201) then jB (xs.map pcW) else ⟨#[]⟩
theorem join_is (ps : List ByteArray) (h1 : ps.length ≤ 201) (h2 : ∀ p ∈ ps, p.size ≤ 7) : strings_Join.f ps (⟨#[32]⟩ : ByteArray) = some (jB ps) := by
  have e : joinB ps (⟨#[32]⟩ : ByteArray) = jB ps := rfl
  unfold strings_Join.f
  rw [e]
  have := jB_size ps 7 h2
  have h3 : ps.length * 8 ≤ 201 * 8 := Nat.mul_le_mul_right _ h1
  exact if_pos ⟨by omega, by omega⟩
theorem impl_loop (xs : List (S51)) (hl : xs.length ≤ 1048576) : ∀ (n i : Nat), i + n = xs.length → (∀ x ∈ xs.take i, okW x = true) → Evn (fun k => impl_WalkText.l0 k xs ((xs.take i).map pcW) xs xs.length i) (if (xs.drop i).all okW && decide (xs.length ≤ 201) then jB (xs.map pcW) else ⟨#[]⟩) := by
  intro n
  induction n with
  | zero =>
    intro i hi hok
    refine Evn.succ ?_
    simp only [impl_WalkText.l0]
    rw [List.take_of_length_le (by omega)] at hok ⊢
    rw [List.drop_eq_nil_of_le (by omega)]
    refine Evn.neg (by omega) ?_
    by_cases h : xs.length ≤ 201
    · have e : ((([] : List (S51)).all okW) && decide (xs.length ≤ 201)) = true := by simp [h]
      rw [e, if_pos rfl, join_is _ (by rw [List.length_map]; exact h) (fun p hp => by
        obtain ⟨x, hx, rfl⟩ := List.mem_map.1 hp
        exact pcW_size (hok x hx))]
      exact Evn.neg (by omega) (Evn.now _)
    · have e : ((([] : List (S51)).all okW) && decide (xs.length ≤ 201)) = false := by rw [decide_eq_false h]; rfl
      have hgt : ((xs.length : Nat) : Int) > 201 := by omega
      have e2 : (if ((([] : List (S51)).all okW) && decide (xs.length ≤ 201)) = true then jB (xs.map pcW) else ⟨#[]⟩) = (⟨#[]⟩ : ByteArray) := by rw [e]; rfl
      rw [e2]
      exact Evn.pos hgt (Evn.now _)
  | succ n ih =>
    intro i hi hok
    have w1 : wrap64 ((i : Int) + 1) = ((i + 1 : Nat) : Int) := by rw [wrap64_in (by omega) (by omega)]; omega
    have hr := ih (i + 1) (by omega)
    rw [take_S xs i (by omega), List.map_append, List.map_cons, List.map_nil] at hr
    refine Evn.succ ?_
    simp only [impl_WalkText.l0, within_is, Option.bind_some]
    refine Evn.pos (by omega) (Evn.pos (by omega) (Evn.pos (by omega) ?_))
    rw [drop_S xs i (by omega), List.all_cons]
    have hoke : okW (rd_T51 xs i) = ((decide (0 ≤ wrap64 (rd_T51 xs i).f0) && decide (wrap64 (rd_T51 xs i).f0 ≤ 9)) && (decide (0 ≤ wrap64 (rd_T51 xs i).f1) && decide (wrap64 (rd_T51 xs i).f1 ≤ 9))) := rfl
    cases ha : (decide (0 ≤ wrap64 (rd_T51 xs i).f0) && decide (wrap64 (rd_T51 xs i).f0 ≤ 9)) with
    | false =>
      rw [ha, Bool.false_and] at hoke
      rw [hoke, Bool.false_and, Bool.false_and, if_neg (by simp)]
      refine Evn.neg (by simp) (Evn.succ ?_)
      simp only [impl_WalkText.j1]
      exact Evn.pos (by first | rfl | trivial) (Evn.now _)
    | true =>
      refine Evn.pos rfl ?_
      cases hb : (decide (0 ≤ wrap64 (rd_T51 xs i).f1) && decide (wrap64 (rd_T51 xs i).f1 ≤ 9)) with
      | false =>
        rw [ha, hb, Bool.true_and] at hoke
        rw [hoke, Bool.false_and, Bool.false_and, if_neg (by simp)]
        refine Evn.succ ?_
        simp only [impl_WalkText.j1]
        exact Evn.pos (by first | rfl | trivial) (Evn.now _)
      | true =>
        rw [ha, hb, Bool.true_and] at hoke
        have hr2 := hr (fun x hx => by
          rcases List.mem_append.1 hx with h | h
          · exact hok x h
          · rw [List.mem_singleton.1 h]; exact hoke)
        rw [hoke, Bool.true_and]
        have hk := okW_in hoke
        have h0 := dB_size (wrap64 (rd_T51 xs i).f0) (by omega)
        have h1 := dB_size (wrap64 (rd_T51 xs i).f1) (by omega)
        have hlen : ((xs.take i).map pcW).length < 8796093022208 := by
          rw [List.length_map, List.length_take]
          omega
        refine Evn.succ ?_
        simp only [impl_WalkText.j1, dec_is _ hk.1, dec_is _ hk.2, Option.bind_some, w1]
        exact Evn.neg (by simp) (Evn.pos (big_1 h0) (Evn.pos (big_2 h0 h1) (Evn.pos hlen hr2)))
theorem impl_walk (xs : List (S51)) (hl : xs.length ≤ 1048576) : Evn (fun k => impl_WalkText.f k xs) (ansW xs) := by
  unfold impl_WalkText.f ansW
  have h := impl_loop xs hl xs.length 0 (by omega) (fun x hx => by rw [List.take_zero] at hx; cases hx)
  rw [List.drop_zero, List.take_zero, List.map_nil] at h
  exact h
end Go.Proofs.YtemhnmbbniminaaDoor.QU
