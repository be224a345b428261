/- Plain laws: growth, heights, clippings, sums. -/
import Derived.Test.YtibpndhcijmhpaaGreatDoorGrassD
import Derived.Test.YtibpndhcijmhpaaGreatDoorQHx
namespace Go.Proofs.YtibpndhcijmhpaaGreatDoor.QG
set_option linter.unusedSimpArgs false
set_option linter.unusedVariables false
open Go.RowKit Go.Proofs.YtibpndhcijmhpaaGreatDoor.B Go.Proofs.YtibpndhcijmhpaaGreatDoorW.PrintWords Go.Proofs.YtibpndhcijmhpaaGreatDoorW.PrintLast Go.Proofs.YtibpndhcijmhpaaGreatDoorW.PrintMore

/-- By how much grass grows on a day. -/
def gr (x : S43) : Int := (x.f0 / 10 + 1) * (x.f1 / 10)
theorem gr_in {x : S43} (h : DayIn x) : 0 ≤ gr x ∧ gr x ≤ 12 := by
  obtain ⟨⟨a0, a1⟩, b0, b1⟩ := h
  unfold gr
  have h1 : 0 ≤ x.f0 / 10 + 1 := by omega
  have h2 : x.f0 / 10 + 1 ≤ 4 := by omega
  have h3 : 0 ≤ x.f1 / 10 := by omega
  have h4 : x.f1 / 10 ≤ 3 := by omega
  exact ⟨Int.mul_nonneg h1 h3, Int.le_trans (Int.mul_le_mul h2 h4 h3 (by omega)) (by omega)⟩
theorem gr_text {x : S43} (h : DayIn x) : wrap64 ((wrap64 ((wrap64 (Int.tdiv (wrap64 (x.f0)) 10)) + 1)) * (wrap64 (Int.tdiv (wrap64 (x.f1)) 10))) = gr x := by
  have hg := gr_in h
  obtain ⟨⟨a0, a1⟩, b0, b1⟩ := h
  rw [wrap64_in (x := x.f0) (by omega) (by omega), wrap64_in (x := x.f1) (by omega) (by omega), Int.tdiv_eq_ediv_of_nonneg a0, Int.tdiv_eq_ediv_of_nonneg b0, wrap64_in (x := x.f0 / 10) (by omega) (by omega), wrap64_in (x := x.f1 / 10) (by omega) (by omega), wrap64_in (x := x.f0 / 10 + 1) (by omega) (by omega)]
  unfold gr at hg ⊢
  exact wrap64_in (by omega) (by omega)
theorem growth_is {x : S43} (h : DayIn x) : spec_l03Growth.f x.f0 x.f1 = some (gr x) := by
  unfold spec_l03Growth.f
  rw [gr_text h]
theorem grows_is {x : S43} (h : DayIn x) : impl_Weather_grows.f x.f0 x.f1 = some (gr x) := growth_is h
theorem drop_S (xs : List (S43)) (i : Nat) (h : i < xs.length) : xs.drop i = rd_T43 xs i :: xs.drop (i + 1) := by
  rw [List.drop_eq_getElem_cons h]
  unfold rd_T43
  simp [List.getElem?_eq_getElem h]
theorem rd_mem (xs : List (S43)) (i : Nat) (h : i < xs.length) : rd_T43 xs i ∈ xs := by
  have := List.drop_subset i xs
  apply this
  rw [drop_S xs i h]
  exact List.mem_cons_self
theorem drop_I (xs : List Int) (i : Nat) (h : i < xs.length) : xs.drop i = rd xs i :: xs.drop (i + 1) := by
  rw [List.drop_eq_getElem_cons h]
  unfold rd
  simp [List.getElem?_eq_getElem h]
theorem rdI_mem (xs : List Int) (i : Nat) (h : i < xs.length) : rd xs i ∈ xs := by
  have := List.drop_subset i xs
  apply this
  rw [drop_I xs i h]
  exact List.mem_cons_self
theorem mem_rdI {xs : List Int} {d : Int} (h : d ∈ xs) : ∃ i : Nat, i < xs.length ∧ rd xs i = d := by
  obtain ⟨i, hi, e⟩ := List.mem_iff_getElem.1 h
  refine ⟨i, hi, ?_⟩
  rw [← e]
  unfold rd
  simp [List.getElem?_eq_getElem hi]
theorem up64 {i : Nat} (h : i ≤ 1000) : wrap64 ((i : Int) + 1) = ((i + 1 : Nat) : Int) := by rw [wrap64_in (by omega) (by omega)]; omega
/-- Is it there? -/
theorem has_loop0 (ps : List Int) (d : Int) (hl : ps.length ≤ 100) : ∀ (n i : Nat), i + n = ps.length → Evn (fun k => spec_l00Has.l0 k ps d i) (decide (d ∈ ps.drop i)) := by
  intro n
  induction n with
  | zero =>
    intro i hi
    rw [List.drop_eq_nil_of_le (by omega)]
    refine Evn.succ ?_
    simp only [spec_l00Has.l0]
    exact Evn.neg (by omega) (by simpa using Evn.now _)
  | succ n ih =>
    intro i hi
    have h2 := ih (i + 1) (by omega)
    rw [drop_I ps i (by omega)]
    refine Evn.succ ?_
    simp only [spec_l00Has.l0, up64 (show i ≤ 1000 by omega)]
    refine Evn.pos (by omega) (Evn.pos (by omega) ?_)
    by_cases e : rd ps i = d
    · rw [show decide (d ∈ rd ps i :: ps.drop (i + 1)) = true by rw [e]; simp]
      exact Evn.pos e (Evn.now _)
    · rw [show decide (d ∈ rd ps i :: ps.drop (i + 1)) = decide (d ∈ ps.drop (i + 1)) by
        have : ¬ d = rd ps i := fun h => e h.symm
        simp [this]]
      exact Evn.neg e h2
theorem has_is (ps : List Int) (d : Int) (hl : ps.length ≤ 100) : Evn (fun k => spec_l00Has.f k ps d) (decide (d ∈ ps)) := by
  unfold spec_l00Has.f
  have := has_loop0 ps d hl ps.length 0 (by omega)
  rw [List.drop_zero] at this
  exact this
theorem HasNumber_is (ps : List Int) (d : Int) (hl : ps.length ≤ 100) : Evn (fun k => spec_HasNumber.f k ps d) (decide (d ∈ ps)) := by
  unfold spec_HasNumber.f
  exact Evn.bind (has_is ps d hl) (Evn.now _)
/-- The sum. -/
theorem sum_loop (xs : List Int) (hl : xs.length ≤ 100) (hx : ∀ x ∈ xs, 0 ≤ x ∧ x ≤ 1000) : ∀ (n i : Nat) (s : Int), i + n = xs.length → 0 ≤ s → s ≤ 1000 * i → Evn (fun k => spec_SumOf.l0 k xs s i) (s + (xs.drop i).sum) := by
  intro n
  induction n with
  | zero =>
    intro i s hi _ _
    rw [List.drop_eq_nil_of_le (by omega)]
    refine Evn.succ ?_
    simp only [spec_SumOf.l0]
    exact Evn.neg (by omega) (by simpa using Evn.now _)
  | succ n ih =>
    intro i s hi h0 h1
    have hm := hx _ (rdI_mem xs i (by omega))
    have h2 := ih (i + 1) (s + rd xs i) (by omega) (by omega) (by omega)
    rw [drop_I xs i (by omega), List.sum_cons, ← Int.add_assoc]
    refine Evn.succ ?_
    simp only [spec_SumOf.l0, up64 (show i ≤ 1000 by omega), wrap64_in (show -9223372036854775808 ≤ s + rd xs i by omega) (by omega)]
    exact Evn.pos (by omega) (Evn.pos (by omega) h2)
theorem SumOf_is (xs : List Int) (hl : xs.length ≤ 100) (hx : ∀ x ∈ xs, 0 ≤ x ∧ x ≤ 1000) : Evn (fun k => spec_SumOf.f k xs) xs.sum := by
  unfold spec_SumOf.f
  have := sum_loop xs hl hx xs.length 0 0 (by omega) (by omega) (by omega)
  rw [List.drop_zero, Int.zero_add] at this
  exact this
/-- Two lists that are one. -/
theorem sameN_loop (xs : List Int) (hl : xs.length ≤ 100) : ∀ (n i : Nat), i + n = xs.length → Evn (fun k => spec_l00Same.l0 k xs xs i) true := by
  intro n
  induction n with
  | zero =>
    intro i hi
    refine Evn.succ ?_
    simp only [spec_l00Same.l0]
    exact Evn.neg (by omega) (Evn.now _)
  | succ n ih =>
    intro i hi
    have h2 := ih (i + 1) (by omega)
    refine Evn.succ ?_
    simp only [spec_l00Same.l0, up64 (show i ≤ 1000 by omega)]
    exact Evn.pos (by omega) (Evn.pos (by omega) (Evn.pos (by omega) (Evn.pos trivial h2)))
theorem sameN (xs : List Int) (hl : xs.length ≤ 100) : Evn (fun k => spec_SameNumbers.f k xs xs) true := by
  unfold spec_SameNumbers.f spec_l00Same.f
  exact Evn.bind (Evn.pos rfl (by simpa using sameN_loop xs hl xs.length 0 (by omega))) (Evn.now _)
theorem sameW_loop (xs : List (S43)) (hl : xs.length ≤ 100) : ∀ (n i : Nat), i + n = xs.length → Evn (fun k => spec_SameWeather.l0 k xs xs i) true := by
  intro n
  induction n with
  | zero =>
    intro i hi
    refine Evn.succ ?_
    simp only [spec_SameWeather.l0]
    exact Evn.neg (by omega) (Evn.now _)
  | succ n ih =>
    intro i hi
    have h2 := ih (i + 1) (by omega)
    refine Evn.succ ?_
    simp only [spec_SameWeather.l0, up64 (show i ≤ 1000 by omega)]
    exact Evn.pos (by omega) (Evn.pos (by omega) (Evn.pos (by omega) (Evn.neg (by simp) h2)))
theorem sameW (xs : List (S43)) (hl : xs.length ≤ 100) : Evn (fun k => spec_SameWeather.f k xs xs) true := by
  unfold spec_SameWeather.f
  exact Evn.pos rfl (by simpa using sameW_loop xs hl xs.length 0 (by omega))
theorem sameI_loop (xs : List (S43)) (hl : xs.length ≤ 100) : ∀ (n i : Nat), i + n = xs.length → Evn (fun k => impl_Weather_51.l0 k xs xs xs.length i) true := by
  intro n
  induction n with
  | zero =>
    intro i hi
    refine Evn.succ ?_
    simp only [impl_Weather_51.l0]
    exact Evn.neg (by omega) (Evn.now _)
  | succ n ih =>
    intro i hi
    have h2 := ih (i + 1) (by omega)
    refine Evn.succ ?_
    simp only [impl_Weather_51.l0, up64 (show i ≤ 1000 by omega)]
    exact Evn.pos (by omega) (Evn.pos (by omega) (Evn.pos (by omega) (Evn.pos (by omega) (Evn.neg (by simp) h2))))
theorem sameI (xs : List (S43)) (hl : xs.length ≤ 100) : Evn (fun k => impl_SameWeather.f k xs xs) true := by
  unfold impl_SameWeather.f impl_Weather_51.f
  exact Evn.bind (Evn.pos rfl (by simpa using sameI_loop xs hl xs.length 0 (by omega))) (Evn.now _)
/-- Valid. -/
theorem day_in {x : S43} (h : DayIn x) : spec_l03Day.f x.f0 x.f1 = some true := by
  obtain ⟨⟨a0, a1⟩, b0, b1⟩ := h
  unfold spec_l03Day.f spec_l00In.f
  rw [wrap64_in (by omega) (by omega), wrap64_in (by omega) (by omega)]
  rw [if_pos (show x.f0 ≥ 0 from a0), if_pos (show x.f1 ≥ 0 from b0)]
  simp only [Option.bind_some]
  rw [decide_eq_true (show x.f0 ≤ 50 by omega), decide_eq_true (show x.f1 ≤ 40 by omega)]
  rfl
theorem okD_loop (xs : List (S43)) (hl : xs.length ≤ 30) (hx : ∀ x ∈ xs, DayIn x) : ∀ (n i : Nat), i + n = xs.length → Evn (fun k => spec_l03Ok.l0 k xs i) true := by
  intro n
  induction n with
  | zero =>
    intro i hi
    refine Evn.succ ?_
    simp only [spec_l03Ok.l0]
    refine Evn.neg (by omega) ?_
    have : decide ((xs.length : Int) ≤ 30) = true := decide_eq_true (by omega)
    rw [this]
    exact Evn.now _
  | succ n ih =>
    intro i hi
    have h2 := ih (i + 1) (by omega)
    refine Evn.succ ?_
    simp only [spec_l03Ok.l0, up64 (show i ≤ 1000 by omega), day_in (hx _ (rd_mem xs i (by omega))), Option.bind_some]
    exact Evn.pos (by omega) (Evn.pos (by omega) (Evn.pos trivial h2))
theorem okD (xs : List (S43)) (hl : xs.length ≤ 30) (hx : ∀ x ∈ xs, DayIn x) : Evn (fun k => spec_l03Ok.f k xs) true := by
  unfold spec_l03Ok.f
  have := okD_loop xs hl hx xs.length 0 (by omega)
  exact this
theorem GrowthOf_is {x : S43} (h : DayIn x) : impl_GrowthOf.f x.f0 x.f1 = some (gr x, 0) := by
  have hg := grows_is h
  obtain ⟨⟨a0, a1⟩, b0, b1⟩ := h
  unfold impl_GrowthOf.f impl_isDay.f impl_within.f
  rw [hg, wrap64_in (by omega) (by omega), wrap64_in (by omega) (by omega), if_pos a0, if_pos b0]
  simp only [Option.bind_some]
  rw [decide_eq_true (show x.f0 ≤ 50 by omega), decide_eq_true (show x.f1 ≤ 40 by omega)]
  rfl
/-- All growth. -/
theorem sGrowth_loop (xs : List (S43)) (hl : xs.length ≤ 30) (hx : ∀ x ∈ xs, DayIn x) : ∀ (n i : Nat) (acc : List Int), i + n = xs.length → acc.length = i → Evn (fun k => spec_GrowthAll.l0 k xs acc i) (acc ++ (xs.drop i).map gr, 0) := by
  intro n
  induction n with
  | zero =>
    intro i acc hi ha
    rw [List.drop_eq_nil_of_le (by omega)]
    refine Evn.succ ?_
    simp only [spec_GrowthAll.l0]
    exact Evn.neg (by omega) (by simpa using Evn.now _)
  | succ n ih =>
    intro i acc hi ha
    have h2 := ih (i + 1) (acc ++ [gr (rd_T43 xs i)]) (by omega) (by simp [ha])
    rw [drop_S xs i (by omega), List.map_cons]
    refine Evn.succ ?_
    simp only [spec_GrowthAll.l0, up64 (show i ≤ 1000 by omega), growth_is (hx _ (rd_mem xs i (by omega))), Option.bind_some]
    refine Evn.pos (by omega) (Evn.pos (by omega) (Evn.pos (by omega) ?_))
    simpa using h2
theorem sGrowth (xs : List (S43)) (hl : xs.length ≤ 30) (hx : ∀ x ∈ xs, DayIn x) : Evn (fun k => spec_GrowthAll.f k xs) (xs.map gr, 0) := by
  unfold spec_GrowthAll.f
  simp only [Option.bind_some]
  refine Evn.bind (okD xs hl hx) (Evn.pos rfl ?_)
  have := sGrowth_loop xs hl hx xs.length 0 [] (by omega) rfl
  rw [List.drop_zero, List.nil_append] at this
  exact this
theorem iGrowth_loop (xs : List (S43)) (hl : xs.length ≤ 30) (hx : ∀ x ∈ xs, DayIn x) : ∀ (n i : Nat) (acc : List Int), i + n = xs.length → acc.length = i → Evn (fun k => impl_GrowthAll.l0 k acc xs xs.length i) (acc ++ (xs.drop i).map gr, 0) := by
  intro n
  induction n with
  | zero =>
    intro i acc hi ha
    rw [List.drop_eq_nil_of_le (by omega)]
    refine Evn.succ ?_
    simp only [impl_GrowthAll.l0]
    exact Evn.neg (by omega) (by simpa using Evn.now _)
  | succ n ih =>
    intro i acc hi ha
    have h2 := ih (i + 1) (acc ++ [gr (rd_T43 xs i)]) (by omega) (by simp [ha])
    rw [drop_S xs i (by omega), List.map_cons]
    refine Evn.succ ?_
    simp only [impl_GrowthAll.l0, up64 (show i ≤ 1000 by omega), grows_is (hx _ (rd_mem xs i (by omega))), Option.bind_some]
    refine Evn.pos (by omega) (Evn.pos (by omega) (Evn.pos (by omega) (Evn.pos (by omega) ?_)))
    simpa using h2
theorem iGrowth (xs : List (S43)) (hl : xs.length ≤ 30) (hx : ∀ x ∈ xs, DayIn x) : Evn (fun k => impl_GrowthAll.f k xs) (xs.map gr, 0) := by
  unfold impl_GrowthAll.f impl_ValidWeather.f
  refine Evn.bind (okD xs hl hx) (Evn.pos rfl ?_)
  have := iGrowth_loop xs hl hx xs.length 0 [] (by omega) rfl
  rw [List.drop_zero, List.nil_append] at this
  exact this
end Go.Proofs.YtibpndhcijmhpaaGreatDoor.QG
