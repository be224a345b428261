/- Plain laws: what WeatherText writes. -/
import Derived.Test.YtibpndhcijmhpaaGreatDoorTexts
import Derived.Test.YtibpndhcijmhpaaGreatDoorQHx
namespace Go.Proofs.YtibpndhcijmhpaaGreatDoor.QG
set_option linter.unusedSimpArgs false
set_option linter.unusedVariables false
open Go.RowKit Go.Proofs.YtibpndhcijmhpaaGreatDoor.B Go.Proofs.YtibpndhcijmhpaaGreatDoorW.PrintWords Go.Proofs.YtibpndhcijmhpaaGreatDoorW.PrintLast Go.Proofs.YtibpndhcijmhpaaGreatDoorW.PrintMore

/-- A day, as it is written. -/
def pcW (x : S43) : ByteArray := (dB (wrap64 x.f0) ++ (⟨#[47]⟩ : ByteArray)) ++ dB (wrap64 x.f1)
def okW (x : S43) : Bool := (decide (0 ≤ wrap64 x.f0) && decide (wrap64 x.f0 ≤ 50)) && (decide (0 ≤ wrap64 x.f1) && decide (wrap64 x.f1 ≤ 40))
theorem okW_in {x : S43} (h : okW x = true) : (0 ≤ wrap64 x.f0 ∧ wrap64 x.f0 ≤ 50) ∧ 0 ≤ wrap64 x.f1 ∧ wrap64 x.f1 ≤ 40 := by
  unfold okW at h
  simpa [and_assoc] using h
theorem size47 : (⟨#[47]⟩ : ByteArray).size = 1 := rfl
theorem size32 : (⟨#[32]⟩ : ByteArray).size = 1 := rfl
theorem pcW_size {x : S43} (h : okW x = true) : (pcW x).size ≤ 7 := by
  obtain ⟨h1, h2⟩ := okW_in h
  unfold pcW
  rw [ByteArray.size_append, ByteArray.size_append, size47]
  have := dB_size (wrap64 x.f0) (by omega)
  have := dB_size (wrap64 x.f1) (by omega)
  omega
theorem big_1 {p : ByteArray} (h : p.size ≤ 3) : p.size + 1 ≤ 9223372036854775807 := by omega
theorem big_2 {p q : ByteArray} (h : p.size ≤ 3) (h' : q.size ≤ 3) : (p ++ (⟨#[47]⟩ : ByteArray)).size + q.size ≤ 9223372036854775807 := by
  rw [ByteArray.size_append, size47]
  omega
theorem big_3 {p : ByteArray} (h : p.size ≤ 30 * 8) : p.size + 1 ≤ 9223372036854775807 := by omega
theorem big_4 {p q : ByteArray} (h : p.size ≤ 30 * 8) (h' : q.size ≤ 7) : (p ++ (⟨#[32]⟩ : ByteArray)).size + q.size ≤ 9223372036854775807 := by
  rw [ByteArray.size_append, size32]
  omega
theorem big_5 {p : ByteArray} (h' : p.size ≤ 7) : (⟨#[]⟩ : ByteArray).size + p.size ≤ 9223372036854775807 := by
  have : (⟨#[]⟩ : ByteArray).size = 0 := rfl
  omega
theorem take_ne {α β : Type} (f : α → β) (xs : List α) (i : Nat) (h : 0 < i) (hi : i ≤ xs.length) : (xs.take i).map f ≠ [] := by
  intro e
  have := congrArg List.length e
  rw [List.length_map, List.length_take, List.length_nil] at this
  omega
theorem in_is (n m : Int) : spec_l00In.f n 0 m = some (decide (0 ≤ n) && decide (n ≤ m)) := by
  unfold spec_l00In.f
  by_cases h : n ≥ 0
  · rw [if_pos h]; simp [h]
  · rw [if_neg h]; simp [h]
theorem day_is (x : S43) : spec_l03Day.f x.f0 x.f1 = some (okW x) := by
  unfold spec_l03Day.f okW
  simp only [in_is, Option.bind_some]
  cases (decide (0 ≤ wrap64 x.f0) && decide (wrap64 x.f0 ≤ 50)) <;> simp
theorem dec_is (n : Int) (h : 0 ≤ n ∧ n ≤ 50) : impl_dec.f n = some (dB n) := by
  unfold impl_dec.f
  rw [if_pos (by omega)]
  rfl
theorem drop_S (xs : List (S43)) (i : Nat) (h : i < xs.length) : xs.drop i = rd_T43 xs i :: xs.drop (i + 1) := by
  rw [List.drop_eq_getElem_cons h]
  unfold rd_T43
  simp [List.getElem?_eq_getElem h]
theorem take_S (xs : List (S43)) (i : Nat) (h : i < xs.length) : xs.take (i + 1) = xs.take i ++ [rd_T43 xs i] := by
  rw [List.take_add_one, List.getElem?_eq_getElem h]
  unfold rd_T43
  simp [List.getElem?_eq_getElem h]
theorem fine_loop (xs : List (S43)) (hl : xs.length ≤ 4194304) : ∀ (n i : Nat), i + n = xs.length → Evn (fun k => spec_l03Ok.l0 k xs i) ((xs.drop i).all okW && decide (xs.length ≤ 30)) := by
  intro n
  induction n with
  | zero =>
    intro i hi
    refine Evn.succ ?_
    simp only [spec_l03Ok.l0]
    refine Evn.neg (by omega) ?_
    rw [List.drop_eq_nil_of_le (by omega)]
    have e : decide (((xs.length : Nat) : Int) ≤ 30) = ((([] : List (S43)).all okW) && decide (xs.length ≤ 30)) := by
      have h : (((xs.length : Nat) : Int) ≤ 30) ↔ xs.length ≤ 30 := by omega
      simp [h]
    rw [e]
    exact Evn.now _
  | succ n ih =>
    intro i hi
    refine Evn.succ ?_
    simp only [spec_l03Ok.l0, day_is, Option.bind_some]
    rw [drop_S xs i (by omega), List.all_cons]
    have w1 : wrap64 ((i : Int) + 1) = ((i + 1 : Nat) : Int) := by rw [wrap64_in (by omega) (by omega)]; omega
    refine Evn.pos (by omega) (Evn.pos (by omega) ?_)
    cases ha : okW (rd_T43 xs i) with
    | false => exact Evn.neg (by simp) (by simpa using Evn.now _)
    | true =>
      refine Evn.pos rfl ?_
      rw [w1]
      simpa using ih (i + 1) (by omega)
/-- What both answer. -/
def ansW (xs : List (S43)) : ByteArray := if xs.all okW && decide (xs.length ≤ 30) then jB (xs.map pcW) else ⟨#[]⟩
theorem join_is (ps : List ByteArray) (h1 : ps.length ≤ 30) (h2 : ∀ p ∈ ps, p.size ≤ 7) : strings_Join.f ps (⟨#[32]⟩ : ByteArray) = some (jB ps) := by
  have e : joinB ps (⟨#[32]⟩ : ByteArray) = jB ps := rfl
  unfold strings_Join.f
  rw [e]
  have := jB_size ps 7 h2
  have h3 : ps.length * 8 ≤ 30 * 8 := Nat.mul_le_mul_right _ h1
  exact if_pos ⟨by omega, by omega⟩
theorem impl_loop (xs : List (S43)) (hl : xs.length ≤ 30) (hok : ∀ x ∈ xs, okW x = true) : ∀ (n i : Nat), i + n = xs.length → Evn (fun k => impl_WeatherText.l0 k ((xs.take i).map pcW) xs xs.length i) (jB (xs.map pcW)) := by
  intro n
  induction n with
  | zero =>
    intro i hi
    refine Evn.succ ?_
    simp only [impl_WeatherText.l0]
    rw [List.take_of_length_le (by omega)]
    refine Evn.neg (by omega) ?_
    rw [join_is _ (by rw [List.length_map]; exact hl) (fun p hp => by
      obtain ⟨x, hx, rfl⟩ := List.mem_map.1 hp
      exact pcW_size (hok x hx))]
    exact Evn.now _
  | succ n ih =>
    intro i hi
    have w1 : wrap64 ((i : Int) + 1) = ((i + 1 : Nat) : Int) := by rw [wrap64_in (by omega) (by omega)]; omega
    have hr := ih (i + 1) (by omega)
    have hmem : rd_T43 xs i ∈ xs := List.mem_of_mem_drop (i := i) (l := xs) (a := rd_T43 xs i) (by rw [drop_S xs i (by omega)]; exact List.mem_cons_self)
    have hk := okW_in (hok _ hmem)
    rw [take_S xs i (by omega), List.map_append, List.map_cons, List.map_nil] at hr
    have hlen : ((xs.take i).map pcW).length < 8796093022208 := by
      rw [List.length_map, List.length_take]
      omega
    have h0 := dB_size (wrap64 (rd_T43 xs i).f0) (by omega)
    have h1 := dB_size (wrap64 (rd_T43 xs i).f1) (by omega)
    have ci : (i : Int) < (xs.length : Int) := Int.ofNat_lt.2 (Nat.lt_of_lt_of_eq (Nat.lt_add_of_pos_right (Nat.succ_pos n)) hi)
    have c0 : (0 : Int) ≤ (i : Int) := Int.natCast_nonneg i
    refine Evn.succ ?_
    simp only [impl_WeatherText.l0, dec_is _ hk.1, dec_is _ ⟨hk.2.1, Int.le_trans hk.2.2 (by decide)⟩, Option.bind_some, w1]
    exact Evn.pos ci (Evn.pos c0 (Evn.pos ci (Evn.pos (big_1 h0) (Evn.pos (big_2 h0 h1) (Evn.pos hlen hr)))))
theorem impl_weather (xs : List (S43)) (hl : xs.length ≤ 1048576) : Evn (fun k => impl_WeatherText.f k xs) (ansW xs) := by
  unfold impl_WeatherText.f impl_ValidWeather.f spec_l03Ok.f ansW
  have h := fine_loop xs (by omega) xs.length 0 (by omega)
  rw [List.drop_zero] at h
  refine Evn.bind h ?_
  cases hb : (xs.all okW && decide (xs.length ≤ 30)) with
  | false => exact Evn.neg (by simp) (by simpa using Evn.now _)
  | true =>
    rw [Bool.and_eq_true, decide_eq_true_eq] at hb
    refine Evn.pos rfl ?_
    have h2 := impl_loop xs hb.2 (fun x hx => List.all_eq_true.1 hb.1 x hx) xs.length 0 (by omega)
    rw [List.take_zero, List.map_nil] at h2
    simpa using h2
end Go.Proofs.YtibpndhcijmhpaaGreatDoor.QG
