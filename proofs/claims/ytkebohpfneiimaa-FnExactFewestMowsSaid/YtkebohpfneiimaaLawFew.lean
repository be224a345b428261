/- Plain laws: FewestMows. -/
import Derived.Test.YtkebohpfneiimaaKPureF
import Derived.Test.YtkebohpfneiimaaKAskedF
import Derived.Test.YtkebohpfneiimaaKClipF
namespace Go.Proofs.Ytkebohpfneiimaa.QF
set_option linter.unusedSimpArgs false
set_option linter.unusedVariables false
open Go.RowKit Go.Proofs.Ytkebohpfneiimaa.B Go.Proofs.Ytkebohpfneiimaa.QM Go.Proofs.YtkebohpfneiimaaW.PrintWords Go.Proofs.YtkebohpfneiimaaW.PrintLast Go.Proofs.YtkebohpfneiimaaW.PrintMore

theorem min_is (a b : Int) : spec_l00Min.f a b = some (min a b) := by
  unfold spec_l00Min.f
  by_cases h : a < b
  · rw [if_pos h]; congr 1; omega
  · rw [if_neg h]; congr 1; omega
theorem grOf_in (x : S43) (hd : day_ x = true) : 0 ≤ grOf x ∧ grOf x ≤ 24 := by
  unfold day_ at hd
  simp only [Bool.and_eq_true, decide_eq_true_eq] at hd
  obtain ⟨⟨a0, a1⟩, b0, b1⟩ := hd
  unfold grOf impl_Weather_grows.f
  simp only [Option.getD_some]
  generalize wrap64 x.f0 = a at a0 a1
  generalize wrap64 x.f1 = b at b0 b1
  have ha : 0 ≤ a.tdiv 10 ∧ a.tdiv 10 ≤ 5 := by rw [Int.tdiv_eq_ediv_of_nonneg a0]; omega
  have hb : 0 ≤ b.tdiv 10 ∧ b.tdiv 10 ≤ 4 := by rw [Int.tdiv_eq_ediv_of_nonneg b0]; omega
  generalize a.tdiv 10 = u at ha
  generalize b.tdiv 10 = v at hb
  rw [wrap64_in (x := u) (by omega) (by omega), wrap64_in (x := v) (by omega) (by omega), wrap64_in (x := u + 1) (by omega) (by omega)]
  have h1 : 0 ≤ (u + 1) * v := Int.mul_nonneg (by omega) (by omega)
  have h2 : (u + 1) * v ≤ 6 * 4 := Int.mul_le_mul (by omega) (by omega) (by omega) (by omega)
  rw [wrap64_in (by omega) (by omega)]
  omega
theorem late_is (xs : List (S43)) (hl : xs.length ≤ 30) (hg : ∀ x ∈ xs, 0 ≤ grOf x ∧ grOf x ≤ 24) (cut most : Int) (c0 : 0 ≤ cut) (c1 : cut ≤ 200) (m1 : most ≤ 200) : ∀ (n i : Nat) (start : Int) (acc : List Int), i + n = xs.length → acc.length ≤ i → 0 ≤ start → start ≤ 2000 →
    (∀ m, lateP cut most ((xs.map grOf).drop i) start = some m → ∃ r, Evn (fun k => spec_l03Late.l0 k start cut most xs acc i) (r, true) ∧ r.length = acc.length + m) ∧
    (lateP cut most ((xs.map grOf).drop i) start = none → Evn (fun k => spec_l03Late.l0 k start cut most xs acc i) ([], false)) := by
  intro n
  induction n with
  | zero =>
    intro i start acc hi ha h0 h1
    rw [List.drop_eq_nil_of_le (by simp; omega)]
    refine ⟨fun m hm => ?_, fun hm => by simp [lateP] at hm⟩
    simp only [lateP, Option.some.injEq] at hm
    subst hm
    refine ⟨acc, Evn.succ ?_, by omega⟩
    simp only [spec_l03Late.l0]
    exact Evn.neg (by omega) (Evn.now _)
  | succ n ih =>
    intro i start acc hi ha h0 h1
    have hgr := hg _ (rd_mem xs i (by omega))
    have hg1 : spec_l03Growth.f (rd_T43 xs i).f0 (rd_T43 xs i).f1 = some (grOf (rd_T43 xs i)) := rfl
    rw [drop_gr xs i (by omega)]
    obtain ⟨g, hgd⟩ : ∃ g, g = grOf (rd_T43 xs i) := ⟨_, rfl⟩
    rw [← hgd] at hgr hg1 ⊢
    have w1 : wrap64 ((i : Int) + 1) = ((i + 1 : Nat) : Int) := by rw [wrap64_in (by omega) (by omega)]; omega
    have w2 : wrap64 (start + g) = start + g := wrap64_in (by omega) (by omega)
    have w3 : wrap64 (min start cut + g) = min start cut + g := wrap64_in (by omega) (by omega)
    by_cases ha1 : start + g > most
    · by_cases ha2 : min start cut + g > most
      · have e : lateP cut most (g :: (xs.map grOf).drop (i + 1)) start = none := by rw [lateP, if_pos ha1, if_pos ha2]
        rw [e]
        refine ⟨fun m hm => (by cases hm), fun _ => Evn.succ ?_⟩
        simp only [spec_l03Late.l0, hg1, min_is, Option.bind_some, w2, w3]
        exact Evn.pos (by omega) (Evn.pos (by omega) (Evn.pos ha1 (Evn.pos (by omega) (Evn.pos ha2 (Evn.now _)))))
      · have e : lateP cut most (g :: (xs.map grOf).drop (i + 1)) start = (lateP cut most ((xs.map grOf).drop (i + 1)) (min start cut + g)).map (· + 1) := by rw [lateP, if_pos ha1, if_neg ha2]
        rw [e]
        obtain ⟨j1, j2⟩ := ih (i + 1) (min start cut + g) (acc ++ [(i : Int)]) (by omega) (by simp; omega) (by omega) (by omega)
        refine ⟨fun m hm => ?_, fun hm => ?_⟩
        · obtain ⟨q, hq, rfl⟩ := Option.map_eq_some_iff.1 hm
          obtain ⟨r, e1, e2⟩ := j1 q hq
          refine ⟨r, Evn.succ ?_, by simp at e2; omega⟩
          simp only [spec_l03Late.l0, hg1, min_is, Option.bind_some, w1, w2, w3]
          exact Evn.pos (by omega) (Evn.pos (by omega) (Evn.pos ha1 (Evn.pos (by omega) (Evn.neg ha2 e1))))
        · have e1 := j2 (by simpa using hm)
          refine Evn.succ ?_
          simp only [spec_l03Late.l0, hg1, min_is, Option.bind_some, w1, w2, w3]
          exact Evn.pos (by omega) (Evn.pos (by omega) (Evn.pos ha1 (Evn.pos (by omega) (Evn.neg ha2 e1))))
    · have e : lateP cut most (g :: (xs.map grOf).drop (i + 1)) start = lateP cut most ((xs.map grOf).drop (i + 1)) (start + g) := by rw [lateP, if_neg ha1]
      rw [e]
      obtain ⟨j1, j2⟩ := ih (i + 1) (start + g) acc (by omega) (by omega) (by omega) (by omega)
      refine ⟨fun m hm => ?_, fun hm => ?_⟩
      · obtain ⟨r, e1, e2⟩ := j1 m hm
        refine ⟨r, Evn.succ ?_, e2⟩
        simp only [spec_l03Late.l0, hg1, Option.bind_some, w1, w2]
        exact Evn.pos (by omega) (Evn.pos (by omega) (Evn.neg ha1 e1))
      · have e1 := j2 hm
        refine Evn.succ ?_
        simp only [spec_l03Late.l0, hg1, Option.bind_some, w1, w2]
        exact Evn.pos (by omega) (Evn.pos (by omega) (Evn.neg ha1 e1))
theorem fewC_stop (cut most : Int) : ∀ (gs : List Int) (d h left : Int) (acc : List Int), left ≤ 0 → fewC cut most gs d h left acc = acc
  | [], _, _, _, _, _ => rfl
  | g :: gs, d, h, left, acc, hl => by
    rw [fewC, if_neg (by omega)]
    exact fewC_stop cut most gs _ _ _ _ hl
theorem fewC_len (cut most : Int) : ∀ (gs : List Int) (d h left : Int) (acc : List Int), (fewC cut most gs d h left acc).length ≤ acc.length + gs.length
  | [], _, _, _, _ => by simp [fewC]
  | g :: gs, d, h, left, acc => by
    have h1 := fewC_len cut most gs (d + 1) (min h cut + g) (left - 1) (acc ++ [d])
    have h2 := fewC_len cut most gs (d + 1) (h + g) left acc
    rw [fewC]
    simp at h1 ⊢
    split <;> omega
theorem fewC_cons (cut most g : Int) (gs : List Int) (d h left : Int) (acc : List Int) : fewC cut most (g :: gs) d h left acc = if 0 < left ∧ min h cut + g ≤ most ∧ leastP cut most gs (min h cut + g) = left - 1 then fewC cut most gs (d + 1) (min h cut + g) (left - 1) (acc ++ [d]) else fewC cut most gs (d + 1) (h + g) left acc := by
  rw [fewC]
set_option maxHeartbeats 4000000 in
theorem few_loop (xs : List (S43)) (hl : xs.length ≤ 30) (hg : ∀ x ∈ xs, 0 ≤ grOf x ∧ grOf x ≤ 24) (cut most : Int) (c0 : 0 ≤ cut) (c1 : cut ≤ 200) (m1 : most ≤ 200) : ∀ (n i : Nat) (h left : Int) (acc R : List Int), i + n = xs.length → acc.length ≤ i → 0 ≤ h → h ≤ 200 + 24 * i → left ≤ 1000 →
    fewC cut most ((xs.map grOf).drop i) i h left acc = R → Evn (fun k => spec_l03Few.l0 k h cut most xs left acc i) R := by
  intro n
  induction n with
  | zero =>
    intro i h left acc R hi ha h0 h1 hl2 hR
    rw [List.drop_eq_nil_of_le (by simp; omega)] at hR
    obtain rfl : acc = R := hR
    refine Evn.succ ?_
    simp only [spec_l03Few.l0]
    refine Evn.neg (by omega) (Evn.succ ?_)
    simp only [spec_l03Few.j1]
    exact Evn.neg (by simp) (Evn.now _)
  | succ n ih =>
    intro i h left acc R hi ha h0 h1 hl2 hR
    refine Evn.succ ?_
    simp only [spec_l03Few.l0]
    refine Evn.pos (by omega) ?_
    by_cases hp : left > 0
    · rw [decide_eq_true hp]
      have hgr := hg _ (rd_mem xs i (by omega))
      have hg1 : spec_l03Growth.f (rd_T43 xs i).f0 (rd_T43 xs i).f1 = some (grOf (rd_T43 xs i)) := rfl
      rw [drop_gr xs i (by omega), fewC_cons] at hR
      obtain ⟨g, hgd⟩ : ∃ g, g = grOf (rd_T43 xs i) := ⟨_, rfl⟩
      rw [← hgd] at hgr hg1 hR
      clear hgd
      have w1 : wrap64 ((i : Int) + 1) = ((i + 1 : Nat) : Int) := by clear hR; rw [wrap64_in (by omega) (by omega)]; omega
      have w2 : wrap64 (h + g) = h + g := by clear hR; exact wrap64_in (by omega) (by omega)
      have w3 : wrap64 (min h cut + g) = min h cut + g := by clear hR; exact wrap64_in (by omega) (by omega)
      have w4 : wrap64 (left - 1) = left - 1 := wrap64_in (by omega) (by omega)
      have hlen : (xs.drop (i + 1)).length = n := by simp; omega
      have hgd2 : ∀ x ∈ xs.drop (i + 1), 0 ≤ grOf x ∧ grOf x ≤ 24 := fun x hx => hg x (List.mem_of_mem_drop hx)
      obtain ⟨j1, j2⟩ := late_is (xs.drop (i + 1)) (by omega) hgd2 cut most c0 c1 m1 (xs.drop (i + 1)).length 0 (min h cut + g) [] (by omega) (by simp) (by omega) (by omega)
      rw [List.drop_zero, List.map_drop] at j1 j2
      obtain ⟨k1, k2⟩ := least_late cut most ((xs.map grOf).drop (i + 1)) (min h cut + g) (by simp; omega) (fun y hy => by obtain ⟨x, hx, rfl⟩ := List.mem_map.1 (List.mem_of_mem_drop hy); exact (hg x hx).1)
      have ed : (i : Int) + 1 = ((i + 1 : Nat) : Int) := by omega
      rw [ed] at hR
      have no : ¬ (0 < left ∧ min h cut + g ≤ most ∧ leastP cut most ((xs.map grOf).drop (i + 1)) (min h cut + g) = left - 1) → Evn (fun k => spec_l03Few.l0 k (h + g) cut most xs left acc ((i + 1 : Nat) : Int)) R := fun hne => by
        rw [if_neg hne] at hR
        exact ih (i + 1) (h + g) left acc R (by omega) (by omega) (by omega) (by omega) hl2 hR
      have yes : (0 < left ∧ min h cut + g ≤ most ∧ leastP cut most ((xs.map grOf).drop (i + 1)) (min h cut + g) = left - 1) → Evn (fun k => spec_l03Few.l0 k (min h cut + g) cut most xs (left - 1) (acc ++ [(i : Int)]) ((i + 1 : Nat) : Int)) R := fun hy => by
        rw [if_pos hy] at hR
        exact ih (i + 1) (min h cut + g) (left - 1) (acc ++ [(i : Int)]) R (by omega) (by simp; omega) (by omega) (by omega) (by omega) hR
      clear hR ih
      refine Evn.succ ?_
      simp only [spec_l03Few.j1, hg1, min_is, Option.bind_some, w1, w2, w3, w4, Int.toNat_natCast]
      refine Evn.pos (by first | rfl | trivial) (Evn.pos (by omega) (Evn.pos (by omega) (Evn.pos (by omega) (Evn.pos (by omega) ?_))))
      cases e : lateP cut most ((xs.map grOf).drop (i + 1)) (min h cut + g) with
      | none =>
        have e1 := k2 e
        refine Evn.bind (a := ([], false)) (by unfold spec_l03Late.f; exact j2 e) ?_
        by_cases hb : min h cut + g ≤ most
        · exact Evn.pos hb (Evn.neg (by simp) (no (by omega)))
        · exact Evn.neg hb (no (by omega))
      | some m =>
        obtain ⟨r, e1, e2⟩ := j1 m e
        obtain ⟨e3, _⟩ := k1 m e
        simp only [List.length_nil, Nat.zero_add] at e2
        refine Evn.bind (a := (r, true)) (by unfold spec_l03Late.f; exact e1) ?_
        by_cases hb : min h cut + g ≤ most
        · refine Evn.pos hb (Evn.pos rfl ?_)
          by_cases hc : (m : Int) = left - 1
          · exact Evn.pos (by simp only [e2]; exact hc) (Evn.pos (by omega) (yes ⟨hp, hb, by rw [e3]; exact hc⟩))
          · exact Evn.neg (by simp only [e2]; exact hc) (no (by rw [e3]; omega))
        · exact Evn.neg hb (no (by omega))
    · rw [decide_eq_false hp]
      rw [fewC_stop _ _ _ _ _ _ _ (by omega)] at hR
      obtain rfl : acc = R := hR
      refine Evn.succ ?_
      simp only [spec_l03Few.j1]
      exact Evn.neg (by simp) (Evn.now _)
theorem lens_any (l : List Int) (h : l.length ≤ 1048576) : lengths_any.f l = some (!(l.all clip_)) := by
  unfold lengths_any.f
  rw [if_pos (by omega)]
theorem few_both (xs : List (S43)) (a b c : Int) (hl : xs.length ≤ 1048576) : ∃ r q, Evn (fun k => spec_FewestMows.f k a b c xs) (r, q) ∧ Evn (fun k => impl_FewestMows.f k a b c xs) (r, q) ∧ r.length ≤ 1048576 := by
  obtain ⟨v, hv⟩ := ok xs hl
  have hi : Evn (fun k => impl_ValidWeather.f k xs) v := hv
  have hspec : ∀ r, Evn (fun k => spec_FewestMows.j0 k a b c xs (if v then (if (clip_ a && clip_ b && clip_ c) then 0 else 2) else 1)) r → Evn (fun k => spec_FewestMows.f k a b c xs) r := by
    intro r h
    unfold spec_FewestMows.f
    simp only [high_clip, Option.bind_some]
    cases ha : clip_ a with
    | false =>
      refine Evn.neg (by simp) (Evn.bind (asked hv false) ?_)
      rw [ha] at h
      simpa using h
    | true =>
      refine Evn.pos (by first | rfl | trivial) ?_
      cases hb : clip_ b with
      | false =>
        refine Evn.neg (by simp) (Evn.bind (asked hv false) ?_)
        rw [ha, hb] at h
        simpa using h
      | true =>
        refine Evn.pos (by first | rfl | trivial) (Evn.bind (asked hv (clip_ c)) ?_)
        rw [ha, hb] at h
        simpa using h
  have himpl : Evn (fun k => impl_lengthsCode.f k xs [a, b, c]) (if v then (if (clip_ a && clip_ b && clip_ c) then 0 else 2) else 1) := by
    unfold impl_lengthsCode.f
    rw [lens_any _ (by simp)]
    simp only [Option.bind_some]
    cases v with
    | false => exact Evn.bind hi (Evn.neg (by simp) (Evn.now _))
    | true =>
      refine Evn.bind hi (Evn.pos (by first | rfl | trivial) ?_)
      have e : List.all [a, b, c] clip_ = (clip_ a && clip_ b && clip_ c) := by simp [List.all, Bool.and_assoc]
      rw [e]
      cases (clip_ a && clip_ b && clip_ c) with
      | false => exact Evn.pos (by simp) (Evn.now _)
      | true => exact Evn.neg (by simp) (Evn.now _)
  cases hvv : v with
  | false =>
    rw [hvv] at hspec himpl
    refine ⟨[], 1, hspec _ (Evn.succ ?_), ?_, by simp⟩
    · simp only [spec_FewestMows.j0]
      exact Evn.neg (by simp) (Evn.now _)
    · unfold impl_FewestMows.f
      exact Evn.bind himpl (Evn.neg (by simp) (Evn.now _))
  | true =>
    rw [hvv] at hspec himpl hv
    cases hab : (clip_ a && clip_ b && clip_ c) with
    | false =>
      rw [hab] at hspec himpl
      refine ⟨[], 2, hspec _ (Evn.succ ?_), ?_, by simp⟩
      · simp only [spec_FewestMows.j0]
        exact Evn.neg (by simp) (Evn.now _)
      · unfold impl_FewestMows.f
        exact Evn.bind himpl (Evn.neg (by simp) (Evn.now _))
    | true =>
      rw [hab] at hspec himpl
      obtain ⟨h30, hdays⟩ := ok_days hv
      have hab2 : ((0 ≤ a ∧ a ≤ 200) ∧ 0 ≤ b ∧ b ≤ 200) ∧ 0 ≤ c ∧ c ≤ 200 := by simpa [clip_] using hab
      obtain ⟨⟨⟨a0, a1⟩, b0, b1⟩, c0, c1⟩ := hab2
      have hg : ∀ x ∈ xs, 0 ≤ grOf x ∧ grOf x ≤ 24 := fun x hx => by
        obtain ⟨j, hj, rfl⟩ := List.getElem_of_mem hx
        have := hdays j (by omega) (by omega)
        unfold rd_T43 at this
        simp only [Int.toNat_natCast, List.getD_eq_getElem?_getD, List.getElem?_eq_getElem hj, Option.getD_some] at this
        exact grOf_in _ this
      have hall : xs.all (fun x => decide (0 ≤ grOf x) && decide (grOf x ≤ 24)) = true := by
        rw [List.all_eq_true]
        intro x hx
        have := hg x hx
        simp [this.1, this.2]
      have hfine : 0 ≤ a ∧ a ≤ 200 ∧ 0 ≤ b ∧ b ≤ 200 ∧ 0 ≤ c ∧ c ≤ 200 ∧ xs.length ≤ 30 ∧ xs.all (fun x => decide (0 ≤ grOf x) && decide (grOf x ≤ 24)) = true := ⟨a0, a1, b0, b1, c0, c1, by omega, hall⟩
      obtain ⟨j1, j2⟩ := late_is xs (by omega) hg b c b0 b1 c1 xs.length 0 a [] (by omega) (by simp) a0 (by omega)
      obtain ⟨k1, k2⟩ := least_late b c (xs.map grOf) a (by simp; omega) (fun y hy => by obtain ⟨x, hx, rfl⟩ := List.mem_map.1 hy; exact (hg x hx).1)
      rw [List.drop_zero] at j1 j2
      cases e : lateP b c (xs.map grOf) a with
      | none =>
        refine ⟨[], 6, hspec _ (Evn.succ ?_), ?_, by simp⟩
        · simp only [spec_FewestMows.j0]
          exact Evn.pos (by simp) (Evn.bind (a := ([], false)) (by unfold spec_l03Late.f; exact j2 e) (Evn.neg (by simp) (Evn.now _)))
        · unfold impl_FewestMows.f
          exact Evn.bind himpl (Evn.pos (by simp) (Evn.pos hfine (Evn.pos (by rw [k2 e]; omega) (Evn.now _))))
      | some m =>
        obtain ⟨r, e1, e2⟩ := j1 m e
        obtain ⟨e3, e4⟩ := k1 m e
        simp only [List.length_nil, Nat.zero_add] at e2
        simp at e4
        have hlate : Evn (fun k => spec_l03Late.f k a b c xs) (r, true) := by unfold spec_l03Late.f; exact e1
        have hfew := few_loop xs (by omega) hg b c b0 b1 c1 xs.length 0 a m [] _ (by omega) (by simp) a0 (by omega) (by omega) rfl
        rw [List.drop_zero] at hfew
        have hlen := fewC_len b c (xs.map grOf) 0 a m []
        refine ⟨fewC b c (xs.map grOf) 0 a m [], 0, hspec _ (Evn.succ ?_), ?_, by simp at hlen; omega⟩
        · simp only [spec_FewestMows.j0]
          refine Evn.pos (by simp) (Evn.bind hlate (Evn.pos rfl (Evn.bind ?_ (Evn.now _))))
          unfold spec_l03Few.f
          refine Evn.bind hlate ?_
          simp only [e2]
          exact hfew
        · unfold impl_FewestMows.f
          rw [e3]
          exact Evn.bind himpl (Evn.pos (by simp) (Evn.pos hfine (Evn.neg (by omega) (Evn.now _))))
theorem fewestMows (xs : List (S45)) (a b c : Int) (hx : xs.length ≤ 140737488351232) : ∃ k, laws_FnExactFewestMows.f k a b c xs = some true := by
  refine Evn.ex ?_
  unfold laws_FnExactFewestMows.f
  rw [sz xs 1048576 (by omega) (by omega) hx]
  simp only [Option.bind_some]
  by_cases h1 : (1048576 : Int) - xs.length < 0
  · rw [if_pos h1]
    exact Evn.pos (by omega) (Evn.now _)
  rw [if_neg h1]
  refine Evn.neg h1 ?_
  obtain ⟨t, ht, htl⟩ := toW xs (by omega)
  have hl : t.length ≤ 1048576 := by omega
  obtain ⟨r, q, hs, hi, hr⟩ := few_both t a b c hl
  obtain ⟨ys, hm, hh⟩ := markI r hr
  obtain ⟨zs, m, hm2, hm0⟩ := markW t hl
  refine Evn.bind ht (Evn.bind hs (Evn.bind ht (Evn.bind hi (Evn.bind (eqI r hr) (Evn.pos rfl (Evn.succ ?_))))))
  simp only [laws_FnExactFewestMows.j0, bne_self_eq_false]
  refine Evn.neg (by decide) (Evn.bind ht (Evn.bind (eqW t hl) (Evn.pos rfl (Evn.bind hm2 (Evn.neg (by simp; omega) (Evn.bind (eqI r hr) (Evn.pos rfl (Evn.succ ?_))))))))
  simp only [laws_FnExactFewestMows.j1]
  refine Evn.neg (by decide) (Evn.bind hm (Evn.bind hh (Evn.neg (by omega) (Evn.pos rfl (Evn.bind ht (Evn.bind hi (Evn.bind (eqI r hr) (Evn.pos rfl (Evn.succ ?_)))))))))
  simp only [laws_FnExactFewestMows.j2, bne_self_eq_false]
  exact Evn.neg (by decide) (Evn.bind hh (Evn.neg (by omega) (Evn.pos rfl (Evn.now _))))
end Go.Proofs.Ytkebohpfneiimaa.QF
