/- Plain laws: heights and clippings. -/
import Derived.Test.YtibpndhcijmhpaaGreatDoorGrassG
namespace Go.Proofs.YtibpndhcijmhpaaGreatDoor.QG
set_option linter.unusedSimpArgs false
set_option linter.unusedVariables false
open Go.RowKit Go.Proofs.YtibpndhcijmhpaaGreatDoor.B Go.Proofs.YtibpndhcijmhpaaGreatDoorW.PrintWords Go.Proofs.YtibpndhcijmhpaaGreatDoorW.PrintLast Go.Proofs.YtibpndhcijmhpaaGreatDoorW.PrintMore

theorem mn_in {s c : Int} (h0 : 0 ≤ s) (h1 : 0 ≤ c) : 0 ≤ mn s c ∧ mn s c ≤ s ∧ mn s c ≤ c := by
  unfold mn
  split <;> omega
theorem min_is (a b : Int) : spec_l00Min.f a b = some (mn a b) := by
  unfold spec_l00Min.f mn
  by_cases h : a < b
  · rw [if_pos h, if_neg (by omega)]
  · rw [if_neg h]
    by_cases h2 : b < a
    · rw [if_pos h2]
    · rw [if_neg h2]
      congr 1
      omega
theorem mx_is (s c : Int) : mx (s - c) 0 = s - mn s c := by
  unfold mx mn
  by_cases h : s - c < 0
  · rw [if_pos h, if_neg (by omega)]
    omega
  · rw [if_neg h]
    by_cases h2 : c < s
    · rw [if_pos h2]
    · rw [if_neg h2]
      omega
/-- Heights and clippings. -/
def runM (cut : Int) (ps : List Int) : Int → Nat → List (S43) → List Int × List Int
  | _, _, [] => ([], [])
  | s, i, x :: xs => if decide ((i : Int) ∈ ps) = true then ((mn s cut + gr x) :: (runM cut ps (mn s cut + gr x) (i + 1) xs).1, (s - mn s cut) :: (runM cut ps (mn s cut + gr x) (i + 1) xs).2)
    else ((s + gr x) :: (runM cut ps (s + gr x) (i + 1) xs).1, (runM cut ps (s + gr x) (i + 1) xs).2)
theorem runM_pos {cut : Int} {ps : List Int} {s : Int} {i : Nat} {x : S43} {xs : List (S43)} (h : (i : Int) ∈ ps) :
    runM cut ps s i (x :: xs) = ((mn s cut + gr x) :: (runM cut ps (mn s cut + gr x) (i + 1) xs).1, (s - mn s cut) :: (runM cut ps (mn s cut + gr x) (i + 1) xs).2) := by
  simp only [runM]
  rw [if_pos (decide_eq_true h)]
theorem runM_neg {cut : Int} {ps : List Int} {s : Int} {i : Nat} {x : S43} {xs : List (S43)} (h : ¬ (i : Int) ∈ ps) :
    runM cut ps s i (x :: xs) = ((s + gr x) :: (runM cut ps (s + gr x) (i + 1) xs).1, (runM cut ps (s + gr x) (i + 1) xs).2) := by
  simp only [runM]
  rw [if_neg (by simpa using h)]
theorem sRun_loop (xs : List (S43)) (ps : List Int) (cut : Int) (hl : xs.length ≤ 8) (hx : ∀ x ∈ xs, DayIn x) (hp : ps.length ≤ 100) (c0 : 0 ≤ cut) (c1 : cut ≤ 200) :
    ∀ (n i : Nat) (s : Int) (hs cs : List Int), i + n = xs.length → hs.length = i → cs.length ≤ i → 0 ≤ s → s ≤ 1000 + 12 * i →
    Evn (fun k => spec_l03Run.l0 k s cut xs ps hs cs i) (hs ++ (runM cut ps s i (xs.drop i)).1, cs ++ (runM cut ps s i (xs.drop i)).2) := by
  intro n
  induction n with
  | zero =>
    intro i s hs cs hi _ _ _ _
    rw [List.drop_eq_nil_of_le (by omega)]
    refine Evn.succ ?_
    simp only [spec_l03Run.l0, runM, List.append_nil]
    exact Evn.neg (by omega) (Evn.now _)
  | succ n ih =>
    intro i s hs cs hi hh hc s0 s1
    have hm := hx _ (rd_mem xs i (by omega))
    have hg := gr_in hm
    have hmn := mn_in s0 c0
    rw [drop_S xs i (by omega)]
    refine Evn.succ ?_
    simp only [spec_l03Run.l0, up64 (show i ≤ 1000 by omega), growth_is hm, min_is, Option.bind_some]
    refine Evn.pos (by omega) (Evn.bind (has_is ps i hp) ?_)
    by_cases hd : (i : Int) ∈ ps
    · rw [runM_pos hd, decide_eq_true hd]
      have h2 := ih (i + 1) (mn s cut + gr (rd_T43 xs i)) (hs ++ [mn s cut + gr (rd_T43 xs i)]) (cs ++ [s - mn s cut]) (by omega) (by simp [hh]) (by simp; omega) (by omega) (by omega)
      rw [wrap64_in (x := mn s cut + gr (rd_T43 xs i)) (by omega) (by omega), wrap64_in (x := s - mn s cut) (by omega) (by omega)]
      refine Evn.pos rfl (Evn.pos (by omega) (Evn.pos (by omega) (Evn.pos (by omega) ?_)))
      simpa using h2
    · rw [runM_neg hd, decide_eq_false hd]
      have h2 := ih (i + 1) (s + gr (rd_T43 xs i)) (hs ++ [s + gr (rd_T43 xs i)]) cs (by omega) (by simp [hh]) (by omega) (by omega) (by omega)
      rw [wrap64_in (x := s + gr (rd_T43 xs i)) (by omega) (by omega)]
      refine Evn.neg (by simp) (Evn.pos (by omega) (Evn.pos (by omega) ?_))
      simpa using h2
theorem index_loop (ps : List Int) (d : Int) (hl : ps.length ≤ 100) : ∀ (n i : Nat), i + n = ps.length → ∃ t, Evn (fun k => slices_Index_int64_int64.l0 k ps d ps.length i) t ∧ decide (t ≥ 0) = decide (d ∈ ps.drop i) := by
  intro n
  induction n with
  | zero =>
    intro i hi
    rw [List.drop_eq_nil_of_le (by omega)]
    refine ⟨-1, Evn.succ ?_, by simp⟩
    simp only [slices_Index_int64_int64.l0]
    exact Evn.neg (by omega) (Evn.now _)
  | succ n ih =>
    intro i hi
    obtain ⟨t, h2, h3⟩ := ih (i + 1) (by omega)
    rw [drop_I ps i (by omega)]
    by_cases e : d = rd ps i
    · refine ⟨(i : Int), Evn.succ ?_, ?_⟩
      · simp only [slices_Index_int64_int64.l0]
        exact Evn.pos (by omega) (Evn.pos (by omega) (Evn.pos (by omega) (Evn.pos e (Evn.now _))))
      · rw [e]
        simp
    · refine ⟨t, Evn.succ ?_, ?_⟩
      · simp only [slices_Index_int64_int64.l0, up64 (show i ≤ 1000 by omega)]
        exact Evn.pos (by omega) (Evn.pos (by omega) (Evn.pos (by omega) (Evn.neg e h2)))
      · rw [h3]
        simp [e]
theorem contains_is (ps : List Int) (d : Int) (hl : ps.length ≤ 100) : Evn (fun k => slices_Contains_int64_int64.f k ps d) (decide (d ∈ ps)) := by
  obtain ⟨t, h, e⟩ := index_loop ps d hl ps.length 0 (by omega)
  unfold slices_Contains_int64_int64.f slices_Index_int64_int64.f
  rw [List.drop_zero] at e
  rw [← e]
  exact Evn.bind h (Evn.now _)
theorem iRun_loop (xs : List (S43)) (ps : List Int) (cut : Int) (hl : xs.length ≤ 8) (hx : ∀ x ∈ xs, DayIn x) (hp : ps.length ≤ 100) (c0 : 0 ≤ cut) (c1 : cut ≤ 200) :
    ∀ (n i : Nat) (s : Int) (hs cs : List Int), i + n = xs.length → hs.length = i → cs.length ≤ i → 0 ≤ s → s ≤ 1000 + 12 * i →
    Evn (fun k => impl_mown.l0 k s cut ps hs cs xs xs.length i) (hs ++ (runM cut ps s i (xs.drop i)).1, cs ++ (runM cut ps s i (xs.drop i)).2) := by
  intro n
  induction n with
  | zero =>
    intro i s hs cs hi _ _ _ _
    rw [List.drop_eq_nil_of_le (by omega)]
    refine Evn.succ ?_
    simp only [impl_mown.l0, runM, List.append_nil]
    exact Evn.neg (by omega) (Evn.now _)
  | succ n ih =>
    intro i s hs cs hi hh hc s0 s1
    have hm := hx _ (rd_mem xs i (by omega))
    have hg := gr_in hm
    have hmn := mn_in s0 c0
    rw [drop_S xs i (by omega)]
    refine Evn.succ ?_
    simp only [impl_mown.l0, up64 (show i ≤ 1000 by omega), grows_is hm, Option.bind_some]
    refine Evn.pos (by omega) (Evn.pos (by omega) (Evn.pos (by omega) (Evn.bind (contains_is ps i hp) ?_)))
    by_cases hd : (i : Int) ∈ ps
    · rw [runM_pos hd, decide_eq_true hd]
      have h2 := ih (i + 1) (mn s cut + gr (rd_T43 xs i)) (hs ++ [mn s cut + gr (rd_T43 xs i)]) (cs ++ [s - mn s cut]) (by omega) (by simp [hh]) (by simp; omega) (by omega) (by omega)
      rw [wrap64_in (x := mn s cut + gr (rd_T43 xs i)) (by omega) (by omega), wrap64_in (x := s - cut) (by omega) (by omega), mx_is]
      refine Evn.pos rfl (Evn.pos (by omega) (Evn.pos (by omega) ?_))
      simpa using h2
    · rw [runM_neg hd, decide_eq_false hd]
      have h2 := ih (i + 1) (s + gr (rd_T43 xs i)) (hs ++ [s + gr (rd_T43 xs i)]) cs (by omega) (by simp [hh]) (by omega) (by omega) (by omega)
      rw [wrap64_in (x := s + gr (rd_T43 xs i)) (by omega) (by omega)]
      refine Evn.neg (by simp) (Evn.pos (by omega) ?_)
      simpa using h2
theorem plan_good (xs : List (S43)) (ps : List Int) (hl : xs.length ≤ 8) (hp : ps.length ≤ 100) (hP : PlanIn ps xs.length) : ∀ (n i : Nat), i + n = ps.length →
    Evn (fun k => spec_l03Plan.l0 k xs ps i) true ∧ Evn (fun k => impl_isPlan.l0 k xs ps ps ps.length i) true := by
  intro n
  induction n with
  | zero =>
    intro i hi
    refine ⟨Evn.succ ?_, Evn.succ ?_⟩
    · simp only [spec_l03Plan.l0]
      exact Evn.neg (by omega) (Evn.now _)
    · simp only [impl_isPlan.l0]
      exact Evn.neg (by omega) (Evn.now _)
  | succ n ih =>
    intro i hi
    obtain ⟨h1, h2⟩ := ih (i + 1) (by omega)
    obtain ⟨⟨p0, p1⟩, p2⟩ := hP i (by omega)
    have w1 : wrap64 ((xs.length : Int) - 1) = (xs.length : Int) - 1 := wrap64_in (by omega) (by omega)
    have e1 : spec_l00In.f (rd ps i) 0 ((xs.length : Int) - 1) = some true := by
      unfold spec_l00In.f
      rw [if_pos p0, decide_eq_true (by omega)]
    have e2 : impl_within.f (rd ps i) 0 ((xs.length : Int) - 1) = some true := by
      unfold impl_within.f
      rw [if_pos p0, decide_eq_true (by omega)]
    have w2 : 0 < i → wrap64 ((i : Int) - 1) = ((i - 1 : Nat) : Int) := fun h => by rw [wrap64_in (by omega) (by omega)]; omega
    refine ⟨Evn.succ ?_, Evn.succ ?_⟩
    · simp only [spec_l03Plan.l0, up64 (show i ≤ 1000 by omega), w1, e1, Option.bind_some]
      refine Evn.pos (by omega) (Evn.pos (by omega) (Evn.pos trivial ?_))
      by_cases h0 : 0 < i
      · rw [w2 h0]
        have := p2 (i - 1) (by omega)
        exact Evn.pos (by omega) (Evn.pos (by omega) (Evn.pos (by omega) (Evn.neg (by omega) h1)))
      · exact Evn.neg (by omega) h1
    · simp only [impl_isPlan.l0, up64 (show i ≤ 1000 by omega), w1, e2, Option.bind_some]
      refine Evn.pos (by omega) (Evn.pos (by omega) (Evn.pos (by omega) (Evn.pos trivial ?_)))
      by_cases h0 : 0 < i
      · rw [w2 h0]
        have := p2 (i - 1) (by omega)
        exact Evn.pos (by omega) (Evn.pos (by omega) (Evn.pos (by omega) (Evn.neg (by omega) h2)))
      · exact Evn.neg (by omega) h2
theorem high_in {n : Int} (h0 : 0 ≤ n) (h1 : n ≤ 200) : spec_l03High.f n = some true := by
  unfold spec_l03High.f spec_l00In.f
  rw [if_pos (show n ≥ 0 from h0), decide_eq_true h1]
  rfl
theorem lens_in {a b : Int} (h0 : 0 ≤ a) (h1 : a ≤ 200) (h2 : 0 ≤ b) (h3 : b ≤ 200) : lengths_any.f [a, b] = some false := by
  unfold lengths_any.f
  rw [if_pos (by simp)]
  simp [clip_, h0, h1, h2, h3]
theorem planned_is {xs : List (S43)} {ps : List Int} (hl : xs.length ≤ 8) (hx : ∀ x ∈ xs, DayIn x) (hp : ps.length ≤ 100) (hP : PlanIn ps xs.length) : Evn (fun k => spec_l03Planned.f k xs ps true) 0 := by
  unfold spec_l03Planned.f spec_l03Asked.f spec_l03Plan.f
  have h := (plan_good xs ps hl hp hP ps.length 0 (by omega)).1
  refine Evn.bind (Evn.bind (okD xs (by omega) hx) (Evn.pos rfl (Evn.pos rfl (Evn.now _)))) (Evn.pos rfl (Evn.bind h (Evn.pos rfl (Evn.now _))))
theorem code_is {xs : List (S43)} {ps : List Int} {start cut : Int} (hl : xs.length ≤ 8) (hx : ∀ x ∈ xs, DayIn x) (hp : ps.length ≤ 100) (hP : PlanIn ps xs.length) (s0 : 0 ≤ start) (s1 : start ≤ 200) (c0 : 0 ≤ cut) (c1 : cut ≤ 200) : Evn (fun k => impl_planCode.f k xs ps [start, cut]) 0 := by
  unfold impl_planCode.f impl_lengthsCode.f impl_isPlan.f impl_ValidWeather.f
  rw [lens_in s0 s1 c0 c1]
  have h := (plan_good xs ps hl hp hP ps.length 0 (by omega)).2
  refine Evn.bind (Evn.bind (okD xs (by omega) hx) (Evn.pos rfl (Evn.bind (Evn.now _) (Evn.neg (by simp) (Evn.now _))))) (Evn.pos rfl (Evn.bind h (Evn.pos rfl (Evn.now _))))
theorem sRun {xs : List (S43)} {ps : List Int} {start cut : Int} (hl : xs.length ≤ 8) (hx : ∀ x ∈ xs, DayIn x) (hp : ps.length ≤ 100) (s0 : 0 ≤ start) (s1 : start ≤ 200) (c0 : 0 ≤ cut) (c1 : cut ≤ 200) : Evn (fun k => spec_l03Run.f k start cut xs ps) (runM cut ps start 0 xs) := by
  have := sRun_loop xs ps cut hl hx hp c0 c1 xs.length 0 start [] [] (by omega) rfl (by simp) s0 (by omega)
  rw [List.drop_zero] at this
  unfold spec_l03Run.f
  simpa using this
theorem iRun {xs : List (S43)} {ps : List Int} {start cut : Int} (hl : xs.length ≤ 8) (hx : ∀ x ∈ xs, DayIn x) (hp : ps.length ≤ 100) (s0 : 0 ≤ start) (s1 : start ≤ 200) (c0 : 0 ≤ cut) (c1 : cut ≤ 200) : Evn (fun k => impl_mown.f k start cut xs ps) (runM cut ps start 0 xs) := by
  have := iRun_loop xs ps cut hl hx hp c0 c1 xs.length 0 start [] [] (by omega) rfl (by simp) s0 (by omega)
  rw [List.drop_zero] at this
  unfold impl_mown.f
  simpa using this
theorem sHeights {xs : List (S43)} {ps : List Int} {start cut : Int} (hl : xs.length ≤ 8) (hx : ∀ x ∈ xs, DayIn x) (hp : ps.length ≤ 100) (hP : PlanIn ps xs.length) (s0 : 0 ≤ start) (s1 : start ≤ 200) (c0 : 0 ≤ cut) (c1 : cut ≤ 200) : Evn (fun k => spec_HeightsOf.f k start cut xs ps) ((runM cut ps start 0 xs).1, 0) := by
  unfold spec_HeightsOf.f
  rw [high_in s0 s1, high_in c0 c1]
  simp only [Option.bind_some]
  exact Evn.pos trivial (Evn.bind (planned_is hl hx hp hP) (Evn.pos rfl (Evn.bind (sRun hl hx hp s0 s1 c0 c1) (Evn.now _))))
theorem sClips {xs : List (S43)} {ps : List Int} {start cut : Int} (hl : xs.length ≤ 8) (hx : ∀ x ∈ xs, DayIn x) (hp : ps.length ≤ 100) (hP : PlanIn ps xs.length) (s0 : 0 ≤ start) (s1 : start ≤ 200) (c0 : 0 ≤ cut) (c1 : cut ≤ 200) : Evn (fun k => spec_ClippingsOf.f k start cut xs ps) ((runM cut ps start 0 xs).2, 0) := by
  unfold spec_ClippingsOf.f
  rw [high_in s0 s1, high_in c0 c1]
  simp only [Option.bind_some]
  exact Evn.pos trivial (Evn.bind (planned_is hl hx hp hP) (Evn.pos rfl (Evn.bind (sRun hl hx hp s0 s1 c0 c1) (Evn.now _))))
theorem iHeights {xs : List (S43)} {ps : List Int} {start cut : Int} (hl : xs.length ≤ 8) (hx : ∀ x ∈ xs, DayIn x) (hp : ps.length ≤ 100) (hP : PlanIn ps xs.length) (s0 : 0 ≤ start) (s1 : start ≤ 200) (c0 : 0 ≤ cut) (c1 : cut ≤ 200) : Evn (fun k => impl_HeightsOf.f k start cut xs ps) ((runM cut ps start 0 xs).1, 0) := by
  unfold impl_HeightsOf.f
  exact Evn.bind (code_is hl hx hp hP s0 s1 c0 c1) (Evn.pos rfl (Evn.bind (iRun hl hx hp s0 s1 c0 c1) (Evn.now _)))
theorem iClips {xs : List (S43)} {ps : List Int} {start cut : Int} (hl : xs.length ≤ 8) (hx : ∀ x ∈ xs, DayIn x) (hp : ps.length ≤ 100) (hP : PlanIn ps xs.length) (s0 : 0 ≤ start) (s1 : start ≤ 200) (c0 : 0 ≤ cut) (c1 : cut ≤ 200) : Evn (fun k => impl_ClippingsOf.f k start cut xs ps) ((runM cut ps start 0 xs).2, 0) := by
  unfold impl_ClippingsOf.f
  exact Evn.bind (code_is hl hx hp hP s0 s1 c0 c1) (Evn.pos rfl (Evn.bind (iRun hl hx hp s0 s1 c0 c1) (Evn.now _)))
/-- What is so of heights and clippings. -/
theorem run_len (cut : Int) (ps : List Int) : ∀ (xs : List (S43)) (s : Int) (i : Nat), (runM cut ps s i xs).1.length = xs.length
  | [], _, _ => rfl
  | x :: xs, s, i => by
    by_cases h : (i : Int) ∈ ps
    · rw [runM_pos h, List.length_cons, List.length_cons, run_len cut ps xs]
    · rw [runM_neg h, List.length_cons, List.length_cons, run_len cut ps xs]
theorem run_clips (cut : Int) (ps : List Int) (n : Nat) (hP : PlanIn ps n) : ∀ (xs : List (S43)) (s : Int) (i p : Nat), i + xs.length = n → p ≤ ps.length → (∀ j : Nat, j < p → rd ps j < i) → (∀ j : Nat, p ≤ j → j < ps.length → (i : Int) ≤ rd ps j) → (runM cut ps s i xs).2.length + p = ps.length
  | [], s, i, p, hi, hp, h1, h2 => by
    simp only [runM, List.length_nil] at hi ⊢
    rcases Nat.lt_or_ge p ps.length with h | h
    · have := h2 p (Nat.le_refl _) h
      have := (hP p h).1.2
      omega
    · omega
  | x :: xs, s, i, p, hi, hp, h1, h2 => by
    rw [List.length_cons] at hi
    by_cases h : (i : Int) ∈ ps
    · obtain ⟨q, hq, e⟩ := mem_rdI h
      have hqp : q = p := by
        rcases Nat.lt_or_ge q p with a | a
        · have := h1 q a
          omega
        · rcases Nat.eq_or_lt_of_le a with a | a
          · exact a.symm
          · have := (hP q hq).2 p a
            have := h2 p (Nat.le_refl _) (by omega)
            omega
      subst hqp
      have ih := run_clips cut ps n hP xs (mn s cut + gr x) (i + 1) (q + 1) (by omega) (by omega) (fun j hj => by
        rcases Nat.lt_or_ge j q with a | a
        · have := h1 j a
          omega
        · obtain rfl : j = q := by omega
          omega) (fun j hj hj2 => by
        have := (hP j hj2).2 q (by omega)
        omega)
      rw [runM_pos h, List.length_cons]
      omega
    · have ih := run_clips cut ps n hP xs (s + gr x) (i + 1) p (by omega) hp (fun j hj => by
        have := h1 j hj
        omega) (fun j hj hj2 => by
        have h3 := h2 j hj hj2
        have : rd ps j ≠ (i : Int) := fun e => h (e ▸ rdI_mem ps j hj2)
        omega)
      rw [runM_neg h]
      exact ih
theorem clips_len (cut : Int) (ps : List Int) (xs : List (S43)) (s : Int) (hP : PlanIn ps xs.length) : (runM cut ps s 0 xs).2.length = ps.length := by
  have := run_clips cut ps xs.length hP xs s 0 0 (by omega) (by omega) (fun j hj => by omega) (fun j _ hj => by have := (hP j hj).1.1; omega)
  omega
theorem run_sum (cut : Int) (ps : List Int) : ∀ (xs : List (S43)) (s : Int) (i : Nat), (runM cut ps s i xs).1.getLastD s + (runM cut ps s i xs).2.sum = s + (xs.map gr).sum
  | [], s, i => by simp [runM]
  | x :: xs, s, i => by
    by_cases h : (i : Int) ∈ ps
    · have ih := run_sum cut ps xs (mn s cut + gr x) (i + 1)
      rw [runM_pos h, List.getLastD_cons, List.sum_cons, List.map_cons, List.sum_cons]
      omega
    · have ih := run_sum cut ps xs (s + gr x) (i + 1)
      rw [runM_neg h]
      simp only [List.getLastD_cons, List.map_cons, List.sum_cons]
      omega
theorem run_in (cut : Int) (ps : List Int) (c0 : 0 ≤ cut) : ∀ (xs : List (S43)) (s : Int) (i : Nat), (∀ x ∈ xs, DayIn x) → 0 ≤ s → (∀ h ∈ (runM cut ps s i xs).1, 0 ≤ h ∧ h ≤ s + 12 * xs.length) ∧ ∀ c ∈ (runM cut ps s i xs).2, 0 ≤ c ∧ c ≤ s + 12 * xs.length
  | [], s, i, _, _ => by simp [runM]
  | x :: xs, s, i, hx, s0 => by
    have hg := gr_in (hx x List.mem_cons_self)
    have hm := mn_in s0 c0
    have hx2 : ∀ y ∈ xs, DayIn y := fun y hy => hx y (List.mem_cons_of_mem _ hy)
    rw [List.length_cons]
    by_cases h : (i : Int) ∈ ps
    · obtain ⟨i1, i2⟩ := run_in cut ps c0 xs (mn s cut + gr x) (i + 1) hx2 (by omega)
      rw [runM_pos h]
      refine ⟨fun y hy => ?_, fun y hy => ?_⟩
      · rcases List.mem_cons.1 hy with rfl | hy
        · omega
        · have := i1 y hy
          omega
      · rcases List.mem_cons.1 hy with rfl | hy
        · omega
        · have := i2 y hy
          omega
    · obtain ⟨i1, i2⟩ := run_in cut ps c0 xs (s + gr x) (i + 1) hx2 (by omega)
      rw [runM_neg h]
      refine ⟨fun y hy => ?_, fun y hy => ?_⟩
      · rcases List.mem_cons.1 hy with rfl | hy
        · omega
        · have := i1 y hy
          omega
      · have := i2 y hy
        omega
theorem run_low (cut : Int) (ps : List Int) (c0 : 0 ≤ cut) : ∀ (xs : List (S43)) (s : Int) (i j : Nat), (∀ x ∈ xs, DayIn x) → 0 ≤ s → j < xs.length → ((i + j : Nat) : Int) ∈ ps → rd (runM cut ps s i xs).1 j ≤ cut + gr (rd_T43 xs j)
  | [], s, i, j, _, _, hj, _ => by simp at hj
  | x :: xs, s, i, j, hx, s0, hj, hp => by
    have hg := gr_in (hx x List.mem_cons_self)
    have hm := mn_in s0 c0
    have hx2 : ∀ y ∈ xs, DayIn y := fun y hy => hx y (List.mem_cons_of_mem _ hy)
    cases j with
    | zero =>
      rw [runM_pos (by simpa using hp)]
      show mn s cut + gr x ≤ cut + gr x
      omega
    | succ j =>
      have hp2 : ((i + 1 + j : Nat) : Int) ∈ ps := by rwa [show i + 1 + j = i + (j + 1) by omega]
      rw [List.length_cons] at hj
      by_cases h : (i : Int) ∈ ps
      · have := run_low cut ps c0 xs (mn s cut + gr x) (i + 1) j hx2 (by omega) (by omega) hp2
        rw [runM_pos h]
        exact this
      · have := run_low cut ps c0 xs (s + gr x) (i + 1) j hx2 (by omega) (by omega) hp2
        rw [runM_neg h]
        exact this
theorem last_rd (hs : List Int) (s : Int) (h : 0 < hs.length) : rd hs ((hs.length - 1 : Nat) : Int) = hs.getLastD s := by
  unfold rd
  rw [Int.toNat_natCast, List.getD_eq_getElem?_getD, ← List.getLast?_eq_getElem?, List.getLastD_eq_getLast?]
  cases hs with
  | nil => simp at h
  | cons x xs => simp [List.getLast?_cons]
end Go.Proofs.YtibpndhcijmhpaaGreatDoor.QG
