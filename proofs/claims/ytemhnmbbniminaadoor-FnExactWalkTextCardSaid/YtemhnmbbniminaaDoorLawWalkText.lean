/- Plain laws: WalkText. -/
import Derived.Test.YtemhnmbbniminaaDoorDecimal
import Derived.Test.YtemhnmbbniminaaDoorKCells
namespace Go.Proofs.YtemhnmbbniminaaDoor.QT
set_option linter.unusedSimpArgs false
set_option linter.unusedVariables false
open Go.RowKit Go.Proofs.YtemhnmbbniminaaDoor.B Go.Proofs.YtemhnmbbniminaaDoorW.PrintWords Go.Proofs.YtemhnmbbniminaaDoorW.PrintLast Go.Proofs.YtemhnmbbniminaaDoorW.PrintMore

/-- A cell's place, as it is written. -/
def pcW (x : S51) : ByteArray := (dB (wrap64 x.f0) ++ (⟨#[44]⟩ : ByteArray)) ++ dB (wrap64 x.f1)
def okW (x : S51) : Bool := (decide (0 ≤ wrap64 x.f0) && decide (wrap64 x.f0 ≤ 9)) && (decide (0 ≤ wrap64 x.f1) && decide (wrap64 x.f1 ≤ 9))
theorem okW_in {x : S51} (h : okW x = true) : (0 ≤ wrap64 x.f0 ∧ wrap64 x.f0 ≤ 9) ∧ 0 ≤ wrap64 x.f1 ∧ wrap64 x.f1 ≤ 9 := by
  unfold okW at h
  simpa [and_assoc] using h
theorem size44 : (⟨#[44]⟩ : ByteArray).size = 1 := rfl
theorem size32 : (⟨#[32]⟩ : ByteArray).size = 1 := rfl
theorem pcW_size {x : S51} (h : okW x = true) : (pcW x).size ≤ 7 := by
  obtain ⟨h1, h2⟩ := okW_in h
  unfold pcW
  rw [ByteArray.size_append, ByteArray.size_append, size44]
  have := dB_size (wrap64 x.f0) (by omega)
  have := dB_size (wrap64 x.f1) (by omega)
  omega
theorem big_1 {p : ByteArray} (h : p.size ≤ 3) : p.size + 1 ≤ 9223372036854775807 := by omega
theorem big_2 {p q : ByteArray} (h : p.size ≤ 3) (h' : q.size ≤ 3) : (p ++ (⟨#[44]⟩ : ByteArray)).size + q.size ≤ 9223372036854775807 := by
  rw [ByteArray.size_append, size44]
  omega
theorem big_3 {p : ByteArray} (h : p.size ≤ 201 * 8) : p.size + 1 ≤ 9223372036854775807 := by omega
theorem big_4 {p q : ByteArray} (h : p.size ≤ 201 * 8) (h' : q.size ≤ 7) : (p ++ (⟨#[32]⟩ : ByteArray)).size + q.size ≤ 9223372036854775807 := by
  rw [ByteArray.size_append, size32]
  omega
theorem big_5 {p : ByteArray} (h' : p.size ≤ 7) : (⟨#[]⟩ : ByteArray).size + p.size ≤ 9223372036854775807 := by
  have : (⟨#[]⟩ : ByteArray).size = 0 := rfl
  omega
theorem take_ne {α β : Type} (f : α → β) (xs : List α) (i : Nat) (h : 0 < i) (hi : i ≤ xs.length) : (xs.take i).map f ≠ [] := by
  intro e
  have := congrArg List.length e
  rw [List.length_map, List.length_take, List.length_nil] at this
  omega
theorem in_is (n : Int) : spec_l00In.f n 0 9 = some (decide (0 ≤ n) && decide (n ≤ 9)) := by
  unfold spec_l00In.f
  by_cases h : n ≥ 0
  · rw [if_pos h]; simp [h]
  · rw [if_neg h]; simp [h]
theorem within_is (n : Int) : impl_within.f n 0 9 = some (decide (0 ≤ n) && decide (n ≤ 9)) := by
  unfold impl_within.f
  by_cases h : 0 ≤ n
  · rw [if_pos h]; simp [h]
  · rw [if_neg h]; simp [h]
theorem dec_is (n : Int) (h : 0 ≤ n ∧ n ≤ 9) : impl_dec.f n = some (dB n) := by
  unfold impl_dec.f
  rw [if_pos (by omega)]
  rfl
theorem drop_S (xs : List (S51)) (i : Nat) (h : i < xs.length) : xs.drop i = rd_T51 xs i :: xs.drop (i + 1) := by
  rw [List.drop_eq_getElem_cons h]
  unfold rd_T51
  simp [List.getElem?_eq_getElem h]
theorem take_S (xs : List (S51)) (i : Nat) (h : i < xs.length) : xs.take (i + 1) = xs.take i ++ [rd_T51 xs i] := by
  rw [List.take_add_one, List.getElem?_eq_getElem h]
  unfold rd_T51
  simp [List.getElem?_eq_getElem h]
theorem plain_loop (xs : List (S51)) (hl : xs.length ≤ 1048576) : ∀ (n i : Nat), i + n = xs.length → Evn (fun k => spec_l04Plain.l0 k xs i) ((xs.drop i).all okW && decide (xs.length ≤ 201)) := by
  intro n
  induction n with
  | zero =>
    intro i hi
    refine Evn.succ ?_
    simp only [spec_l04Plain.l0]
    refine Evn.neg (by omega) ?_
    rw [List.drop_eq_nil_of_le (by omega)]
    have e : decide (((xs.length : Nat) : Int) ≤ 201) = ((([] : List (S51)).all okW) && decide (xs.length ≤ 201)) := by
      have h : (((xs.length : Nat) : Int) ≤ 201) ↔ xs.length ≤ 201 := by omega
      simp [h]
    rw [e]
    exact Evn.now _
  | succ n ih =>
    intro i hi
    refine Evn.succ ?_
    simp only [spec_l04Plain.l0, in_is, Option.bind_some]
    rw [drop_S xs i (by omega), List.all_cons]
    have w1 : wrap64 ((i : Int) + 1) = ((i + 1 : Nat) : Int) := by rw [wrap64_in (by omega) (by omega)]; omega
    refine Evn.pos (by omega) (Evn.pos (by omega) ?_)
    have hr := ih (i + 1) (by omega)
    unfold okW at hr ⊢
    generalize rd_T51 xs i = x
    cases ha : (decide (0 ≤ wrap64 x.f0) && decide (wrap64 x.f0 ≤ 9)) with
    | false => exact Evn.neg (by simp) (by simpa using Evn.now _)
    | true =>
      refine Evn.pos rfl ?_
      cases hb : (decide (0 ≤ wrap64 x.f1) && decide (wrap64 x.f1 ≤ 9)) with
      | false => exact Evn.neg (by simp) (by simpa using Evn.now _)
      | true =>
        refine Evn.pos rfl ?_
        rw [w1]
        simpa using hr
theorem text_loop (xs : List (S51)) (hl : xs.length ≤ 201) (hok : ∀ x ∈ xs, okW x = true) : ∀ (n i : Nat), i + n = xs.length → Evn (fun k => spec_l04Text.l0 k xs (jB ((xs.take i).map pcW)) i) (jB (xs.map pcW)) := by
  intro n
  induction n with
  | zero =>
    intro i hi
    refine Evn.succ ?_
    simp only [spec_l04Text.l0]
    rw [List.take_of_length_le (by omega)]
    exact Evn.neg (by omega) (Evn.now _)
  | succ n ih =>
    intro i hi
    have hr := ih (i + 1) (by omega)
    have hmem : rd_T51 xs i ∈ xs := by
      have := List.mem_of_mem_drop (i := i) (l := xs) (a := rd_T51 xs i) (by rw [drop_S xs i (by omega)]; exact List.mem_cons_self)
      exact this
    have hk := okW_in (hok _ hmem)
    have w1 : wrap64 ((i : Int) + 1) = ((i + 1 : Nat) : Int) := by rw [wrap64_in (by omega) (by omega)]; omega
    have ci : (i : Int) < (xs.length : Int) := by omega
    have c0 : (0 : Int) ≤ (i : Int) := by omega
    have h0 := dB_size (wrap64 (rd_T51 xs i).f0) (by omega)
    have h1 := dB_size (wrap64 (rd_T51 xs i).f1) (by omega)
    have d0 := decimal_int _ hk.1.1 (by omega)
    have d1 := decimal_int _ hk.2.1 (by omega)
    have hle : i ≤ xs.length := by omega
    have hps := pcW_size (hok _ hmem)
    rw [take_S xs i (Int.ofNat_lt.1 ci), List.map_append, List.map_cons, List.map_nil] at hr
    have hzl := jB_size ((xs.take i).map pcW) 7 (fun p hp => by
      obtain ⟨x, hx, rfl⟩ := List.mem_map.1 hp
      exact pcW_size (hok x (List.mem_of_mem_take hx)))
    rw [List.length_map, List.length_take] at hzl
    have hmin : min i xs.length ≤ 201 := Nat.le_trans (Nat.min_le_right _ _) hl
    have hzb : (jB ((xs.take i).map pcW)).size ≤ 201 * 8 := Nat.le_trans hzl (Nat.mul_le_mul_right _ hmin)
    refine Evn.succ ?_
    simp only [spec_l04Text.l0, w1]
    refine Evn.pos ci ?_
    by_cases hi0 : i = 0
    · have cn : ¬ ((i : Int) > 0) := by rw [hi0]; decide
      refine Evn.neg cn (Evn.pos c0 (Evn.bind d0 (Evn.pos (big_1 h0) (Evn.bind d1 (Evn.pos (big_2 h0 h1) ?_)))))
      subst hi0
      rw [List.take_zero, List.map_nil, List.nil_append, jB_one] at hr
      rw [List.take_zero, List.map_nil, jB_nil]
      have e : ∀ p : ByteArray, (⟨#[]⟩ : ByteArray) ++ p = p := fun p => ba_ext (by rw [ba_app]; rfl)
      refine Evn.pos (big_5 hps) ?_
      rw [e]
      exact hr
    · have cp : (i : Int) > 0 := Int.natCast_pos.mpr (Nat.pos_of_ne_zero hi0)
      rw [jB_snoc _ _ (take_ne pcW xs i (Nat.pos_of_ne_zero hi0) hle)] at hr
      exact Evn.pos cp (Evn.pos (big_3 hzb) (Evn.pos c0 (Evn.bind d0 (Evn.pos (big_1 h0) (Evn.bind d1 (Evn.pos (big_2 h0 h1) (Evn.pos (big_4 hzb hps) hr)))))))
/-- What both answer. -/
def ansW (xs : List (S51)) : ByteArray := if xs.all okW && decide (xs.length ≤ 201) then jB (xs.map pcW) else ⟨#[]⟩
theorem spec_walk (xs : List (S51)) (hl : xs.length ≤ 1048576) : Evn (fun k => spec_WalkText.f k xs) (ansW xs) := by
  unfold spec_WalkText.f spec_l04Plain.f ansW
  have h := plain_loop xs hl xs.length 0 (by omega)
  rw [List.drop_zero] at h
  refine Evn.bind h ?_
  cases hb : (xs.all okW && decide (xs.length ≤ 201)) with
  | false => exact Evn.neg (by simp) (by simpa using Evn.now _)
  | true =>
    rw [Bool.and_eq_true, decide_eq_true_eq] at hb
    refine Evn.pos rfl (Evn.bind ?_ (by simpa using Evn.now _))
    unfold spec_l04Text.f
    have h2 := text_loop xs hb.2 (fun x hx => List.all_eq_true.1 hb.1 x hx) xs.length 0 (by omega)
    rw [List.take_zero, List.map_nil, jB_nil] at h2
    exact h2
theorem join_is (ps : List ByteArray) (h1 : ps.length ≤ 201) (h2 : ∀ p ∈ ps, p.size ≤ 7) : strings_Join.f ps (⟨#[32]⟩ : ByteArray) = some (jB ps) := by
  have e : joinB ps (⟨#[32]⟩ : ByteArray) = jB ps := rfl
  unfold strings_Join.f
  rw [e]
  have := jB_size ps 7 h2
  have h3 : ps.length * 8 ≤ 201 * 8 := Nat.mul_le_mul_right _ h1
  exact if_pos ⟨by omega, by omega⟩
theorem impl_loop (xs : List (S51)) (hl : xs.length ≤ 1048576) : ∀ (n i : Nat), i + n = xs.length → (∀ x ∈ xs.take i, okW x = true) → Evn (fun k => impl_WalkText.l0 k xs ((xs.take i).map pcW) xs xs.length i) (if (xs.drop i).all okW && decide (xs.length ≤ 201) then jB (xs.map pcW) else ⟨#[]⟩) := by
  intro n
  induction n with
  | zero =>
    intro i hi hok
    refine Evn.succ ?_
    simp only [impl_WalkText.l0]
    rw [List.take_of_length_le (by omega)] at hok ⊢
    rw [List.drop_eq_nil_of_le (by omega)]
    refine Evn.neg (by omega) ?_
    by_cases h : xs.length ≤ 201
    · have e : ((([] : List (S51)).all okW) && decide (xs.length ≤ 201)) = true := by simp [h]
      rw [e, if_pos rfl, join_is _ (by rw [List.length_map]; exact h) (fun p hp => by
        obtain ⟨x, hx, rfl⟩ := List.mem_map.1 hp
        exact pcW_size (hok x hx))]
      exact Evn.neg (by omega) (Evn.now _)
    · have e : ((([] : List (S51)).all okW) && decide (xs.length ≤ 201)) = false := by rw [decide_eq_false h]; rfl
      have hgt : ((xs.length : Nat) : Int) > 201 := by omega
      have e2 : (if ((([] : List (S51)).all okW) && decide (xs.length ≤ 201)) = true then jB (xs.map pcW) else ⟨#[]⟩) = (⟨#[]⟩ : ByteArray) := by rw [e]; rfl
      rw [e2]
      exact Evn.pos hgt (Evn.now _)
  | succ n ih =>
    intro i hi hok
    have w1 : wrap64 ((i : Int) + 1) = ((i + 1 : Nat) : Int) := by rw [wrap64_in (by omega) (by omega)]; omega
    have hr := ih (i + 1) (by omega)
    rw [take_S xs i (by omega), List.map_append, List.map_cons, List.map_nil] at hr
    refine Evn.succ ?_
    simp only [impl_WalkText.l0, within_is, Option.bind_some]
    refine Evn.pos (by omega) (Evn.pos (by omega) (Evn.pos (by omega) ?_))
    rw [drop_S xs i (by omega), List.all_cons]
    have hoke : okW (rd_T51 xs i) = ((decide (0 ≤ wrap64 (rd_T51 xs i).f0) && decide (wrap64 (rd_T51 xs i).f0 ≤ 9)) && (decide (0 ≤ wrap64 (rd_T51 xs i).f1) && decide (wrap64 (rd_T51 xs i).f1 ≤ 9))) := rfl
    cases ha : (decide (0 ≤ wrap64 (rd_T51 xs i).f0) && decide (wrap64 (rd_T51 xs i).f0 ≤ 9)) with
    | false =>
      rw [ha, Bool.false_and] at hoke
      rw [hoke, Bool.false_and, Bool.false_and, if_neg (by simp)]
      refine Evn.neg (by simp) (Evn.succ ?_)
      simp only [impl_WalkText.j1]
      exact Evn.pos (by first | rfl | trivial) (Evn.now _)
    | true =>
      refine Evn.pos rfl ?_
      cases hb : (decide (0 ≤ wrap64 (rd_T51 xs i).f1) && decide (wrap64 (rd_T51 xs i).f1 ≤ 9)) with
      | false =>
        rw [ha, hb, Bool.true_and] at hoke
        rw [hoke, Bool.false_and, Bool.false_and, if_neg (by simp)]
        refine Evn.succ ?_
        simp only [impl_WalkText.j1]
        exact Evn.pos (by first | rfl | trivial) (Evn.now _)
      | true =>
        rw [ha, hb, Bool.true_and] at hoke
        have hr2 := hr (fun x hx => by
          rcases List.mem_append.1 hx with h | h
          · exact hok x h
          · rw [List.mem_singleton.1 h]; exact hoke)
        rw [hoke, Bool.true_and]
        have hk := okW_in hoke
        have h0 := dB_size (wrap64 (rd_T51 xs i).f0) (by omega)
        have h1 := dB_size (wrap64 (rd_T51 xs i).f1) (by omega)
        have hlen : ((xs.take i).map pcW).length < 8796093022208 := by
          rw [List.length_map, List.length_take]
          omega
        refine Evn.succ ?_
        simp only [impl_WalkText.j1, dec_is _ hk.1, dec_is _ hk.2, Option.bind_some, w1]
        exact Evn.neg (by simp) (Evn.pos (big_1 h0) (Evn.pos (big_2 h0 h1) (Evn.pos hlen hr2)))
theorem impl_walk (xs : List (S51)) (hl : xs.length ≤ 1048576) : Evn (fun k => impl_WalkText.f k xs) (ansW xs) := by
  unfold impl_WalkText.f ansW
  have h := impl_loop xs hl xs.length 0 (by omega) (fun x hx => by rw [List.take_zero] at hx; cases hx)
  rw [List.drop_zero, List.take_zero, List.map_nil] at h
  exact h
theorem walkText (xs : List (S53)) (hx : xs.length ≤ 140737488351232) : ∃ k, laws_FnExactWalkText.f k xs = some true := by
  refine Evn.ex ?_
  unfold laws_FnExactWalkText.f
  rw [sz xs 1048576 (by omega) (by omega) hx]
  simp only [Option.bind_some]
  by_cases h1 : (1048576 : Int) - xs.length < 0
  · rw [if_pos h1]
    exact Evn.pos (by omega) (Evn.now _)
  rw [if_neg h1]
  refine Evn.neg h1 ?_
  obtain ⟨t, ht, htl⟩ := toW xs (by omega)
  have hl : t.length ≤ 1048576 := by omega
  exact Evn.bind ht (Evn.bind (spec_walk t hl) (Evn.bind ht (Evn.bind (impl_walk t hl) (Evn.pos rfl (Evn.bind ht (Evn.bind (eqW t hl) (Evn.pos rfl (Evn.now _))))))))
end Go.Proofs.YtemhnmbbniminaaDoor.QT
