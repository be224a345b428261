/- Plain laws: seeds, days exchanged, weather read from its text. -/
import Derived.Test.YtibpndhcijmhpaaGreatDoorGrassF
import Derived.Test.YtibpndhcijmhpaaGreatDoorLawReadWeather
namespace Go.Proofs.YtibpndhcijmhpaaGreatDoor.QG
set_option linter.unusedSimpArgs false
set_option linter.unusedVariables false
open Go.RowKit Go.Proofs.YtibpndhcijmhpaaGreatDoor.B Go.Proofs.YtibpndhcijmhpaaGreatDoorW.PrintWords Go.Proofs.YtibpndhcijmhpaaGreatDoorW.PrintLast Go.Proofs.YtibpndhcijmhpaaGreatDoorW.PrintMore

def noneB (xs : List (S43)) (a b : Int) (d j : Nat) : Bool := (List.range j).all fun i => !poor_ a b (rd_T43 xs ((d + i : Nat) : Int))
theorem noneB_succ (xs : List (S43)) (a b : Int) (d j : Nat) : noneB xs a b d (j + 1) = (noneB xs a b d j && !poor_ a b (rd_T43 xs ((d + j : Nat) : Int))) := by
  unfold noneB
  rw [List.range_succ, List.all_append]
  simp
theorem any_cut (xs : List (S43)) (a b : Int) (d : Nat) : ∀ n, d + n ≤ xs.length → ((xs.take (d + n)).drop d).any (poor_ a b) = !noneB xs a b d n := by
  intro n
  induction n with
  | zero => intro h; rw [Nat.add_zero, List.drop_eq_nil_of_le (by rw [List.length_take]; omega)]; rfl
  | succ n ih =>
    intro h
    rw [noneB_succ, ← Nat.add_assoc, List.take_succ_eq_append_getElem (by omega), List.drop_append_of_le_length (by rw [List.length_take]; omega), List.any_append, ih (by omega)]
    have e : rd_T43 xs ((d + n : Nat) : Int) = xs[d + n] := by
      unfold rd_T43
      rw [Int.toNat_natCast, List.getD_eq_getElem?_getD, List.getElem?_eq_getElem (by omega)]
      rfl
    rw [e]
    simp
/-- Days from which on one can seed, among the first m. -/
def seedM (xs : List (S43)) (d : Nat) : Nat → List Int
  | 0 => []
  | m + 1 => if noneB xs 5 10 m d = true then seedM xs d m ++ [(m : Int)] else seedM xs d m
theorem seed_len (xs : List (S43)) (d : Nat) : ∀ m, (seedM xs d m).length ≤ m
  | 0 => Nat.le_refl _
  | m + 1 => by
    have := seed_len xs d m
    simp only [seedM]
    split
    · rw [List.length_append, List.length_singleton]; omega
    · omega
theorem seed_mem (xs : List (S43)) (d i : Nat) : ∀ m, ((i : Int) ∈ seedM xs d m ↔ i < m ∧ noneB xs 5 10 i d = true)
  | 0 => by simp [seedM]
  | m + 1 => by
    have ih := seed_mem xs d i m
    simp only [seedM]
    by_cases c : noneB xs 5 10 m d = true
    · rw [if_pos c, List.mem_append, ih, List.mem_singleton]
      refine ⟨fun h => ?_, fun h => ?_⟩
      · rcases h with h | h
        · exact ⟨by omega, h.2⟩
        · obtain rfl : i = m := by omega
          exact ⟨by omega, c⟩
      · by_cases e : i = m
        · exact .inr (by rw [e])
        · exact .inl ⟨by omega, h.2⟩
    · rw [if_neg c, ih]
      refine ⟨fun h => ⟨by omega, h.2⟩, fun h => ?_⟩
      by_cases e : i = m
      · rw [e] at h
        exact absurd h.2 c
      · exact ⟨by omega, h.2⟩
theorem sSeed_in (xs : List (S43)) (hl : xs.length ≤ 8) (hx : ∀ x ∈ xs, DayIn x) (d i : Nat) (hd : i + d ≤ xs.length) (acc : List Int) (ha : acc.length ≤ 100) (r : List Int × Int)
    (h : Evn (fun k => spec_SeedDays.l0 k xs d 5 10 (if noneB xs 5 10 i d = true then acc ++ [(i : Int)] else acc) (wrap64 ((i : Int) + 1))) r) :
    ∀ (m k : Nat), k + m = d → Evn (fun f => spec_SeedDays.l1 f xs d 5 10 acc i (noneB xs 5 10 i k) k) r := by
  intro m
  induction m with
  | zero =>
    intro k hk
    obtain rfl : k = d := by omega
    refine Evn.succ ?_
    simp only [spec_SeedDays.l1]
    refine Evn.neg (by omega) ?_
    by_cases c : noneB xs 5 10 i k = true
    · rw [if_pos c] at h
      exact Evn.pos c (Evn.pos (by omega) h)
    · rw [if_neg c] at h
      exact Evn.neg c h
  | succ m ih =>
    intro k hk
    have hm := hx _ (rd_mem xs (i + k) (by omega))
    have w1 : wrap64 ((i : Int) + k) = ((i + k : Nat) : Int) := by rw [wrap64_in (by omega) (by omega)]; omega
    have h2 := ih (k + 1) (by omega)
    obtain ⟨⟨a0, a1⟩, b0, b1⟩ := hm
    have w2 : wrap64 (rd_T43 xs ((i + k : Nat) : Int)).f0 = (rd_T43 xs ((i + k : Nat) : Int)).f0 := wrap64_in (by omega) (by omega)
    have w3 : wrap64 (rd_T43 xs ((i + k : Nat) : Int)).f1 = (rd_T43 xs ((i + k : Nat) : Int)).f1 := wrap64_in (by omega) (by omega)
    rw [noneB_succ] at h2
    unfold poor_ at h2
    rw [w2, w3] at h2
    refine Evn.succ ?_
    simp only [spec_SeedDays.l1, w1, w2, w3, up64 (show k ≤ 1000 by omega)]
    refine Evn.pos (by omega) (Evn.pos (by omega) (Evn.pos (by omega) ?_))
    cases hb : noneB xs 5 10 i k with
    | false =>
      rw [hb, Bool.false_and] at h2
      exact Evn.neg (by simp) h2
    | true =>
      rw [hb, Bool.true_and] at h2
      refine Evn.pos rfl ?_
      by_cases c : (rd_T43 xs ((i + k : Nat) : Int)).f0 ≥ 5
      · rw [decide_eq_false (show ¬ (rd_T43 xs ((i + k : Nat) : Int)).f0 < 5 by omega), Bool.false_or] at h2
        have e : (!decide ((rd_T43 xs ((i + k : Nat) : Int)).f1 < 10)) = decide ((rd_T43 xs ((i + k : Nat) : Int)).f1 ≥ 10) := by
          by_cases c2 : (rd_T43 xs ((i + k : Nat) : Int)).f1 ≥ 10
          · rw [decide_eq_true c2, decide_eq_false (by omega)]; rfl
          · rw [decide_eq_false c2, decide_eq_true (by omega)]; rfl
        rw [e] at h2
        exact Evn.pos c h2
      · rw [decide_eq_true (show (rd_T43 xs ((i + k : Nat) : Int)).f0 < 5 by omega), Bool.true_or] at h2
        exact Evn.neg c h2
theorem sSeed_loop (xs : List (S43)) (hl : xs.length ≤ 8) (hx : ∀ x ∈ xs, DayIn x) (d : Nat) (h0 : 1 ≤ d) (h1 : d ≤ 30) : ∀ (n i : Nat), i + n = xs.length + 1 - d → Evn (fun k => spec_SeedDays.l0 k xs d 5 10 (seedM xs d i) i) (seedM xs d (xs.length + 1 - d), 0) := by
  intro n
  induction n with
  | zero =>
    intro i hi
    rw [show xs.length + 1 - d = i by omega]
    refine Evn.succ ?_
    simp only [spec_SeedDays.l0]
    rw [wrap64_in (by omega) (by omega)]
    exact Evn.neg (by omega) (Evn.now _)
  | succ n ih =>
    intro i hi
    have h2 := ih (i + 1) (by omega)
    have hlen := seed_len xs d i
    refine Evn.succ ?_
    simp only [spec_SeedDays.l0]
    rw [wrap64_in (by omega) (by omega)]
    refine Evn.pos (by omega) (sSeed_in xs hl hx d i (by omega) _ (by omega) _ ?_ d 0 (by omega))
    rw [up64 (show i ≤ 1000 by omega)]
    exact h2
theorem iSeed_loop (xs : List (S43)) (hl : xs.length ≤ 8) (d : Nat) (h0 : 1 ≤ d) (h1 : d ≤ 30) : ∀ (n i : Nat), i + n = xs.length + 1 - d → Evn (fun k => impl_SeedDays.l0 k xs d 5 10 (seedM xs d i) i) (seedM xs d (xs.length + 1 - d), 0) := by
  intro n
  induction n with
  | zero =>
    intro i hi
    rw [show xs.length + 1 - d = i by omega]
    refine Evn.succ ?_
    simp only [impl_SeedDays.l0]
    rw [wrap64_in (by omega) (by omega)]
    exact Evn.neg (by omega) (Evn.now _)
  | succ n ih =>
    intro i hi
    have h2 := ih (i + 1) (by omega)
    have hlen := seed_len xs d i
    have e1 : wrap64 ((i : Int) + d) = ((i + d : Nat) : Int) := by rw [wrap64_in (by omega) (by omega)]; omega
    have e2 : seed_any.f ((xs.take (i + d)).drop i) 5 10 = some (!noneB xs 5 10 i d) := by
      unfold seed_any.f
      rw [if_pos (by rw [List.length_drop, List.length_take]; omega), any_cut xs 5 10 i d (by omega)]
    refine Evn.succ ?_
    simp only [impl_SeedDays.l0, e1, Int.toNat_natCast, e2, Option.bind_some, up64 (show i ≤ 1000 by omega)]
    refine Evn.pos (by omega) (Evn.pos (by omega) (Evn.pos (by omega) ?_))
    simp only [seedM] at h2
    cases hb : noneB xs 5 10 i d with
    | false =>
      rw [hb, if_neg (by simp)] at h2
      exact Evn.pos rfl h2
    | true =>
      rw [hb, if_pos rfl] at h2
      exact Evn.neg (by simp) (Evn.pos (by omega) h2)
theorem sSeed (xs : List (S43)) (hl : xs.length ≤ 8) (hx : ∀ x ∈ xs, DayIn x) (d : Nat) (h0 : 1 ≤ d) (h1 : d ≤ 30) : Evn (fun k => spec_SeedDays.f k xs d 5 10) (seedM xs d (xs.length + 1 - d), 0) := by
  have e1 : spec_l00In.f 5 0 50 = some true := by decide
  have e2 : spec_l00In.f 10 0 40 = some true := by decide
  unfold spec_SeedDays.f
  simp only [span_in h0 h1, e1, e2, Option.bind_some]
  refine Evn.pos trivial (Evn.pos trivial (Evn.bind (asked_is xs (by omega) hx) (Evn.succ ?_)))
  simp only [spec_SeedDays.j0]
  exact Evn.pos trivial (sSeed_loop xs hl hx d h0 h1 (xs.length + 1 - d) 0 (by omega))
theorem iSeed (xs : List (S43)) (hl : xs.length ≤ 8) (hx : ∀ x ∈ xs, DayIn x) (d : Nat) (h0 : 1 ≤ d) (h1 : d ≤ 30) : Evn (fun k => impl_SeedDays.f k xs d 5 10) (seedM xs d (xs.length + 1 - d), 0) := by
  have e0 : impl_within.f d 1 30 = some true := by
    unfold impl_within.f
    rw [if_pos (by omega), decide_eq_true (by omega)]
  have e1 : impl_within.f 5 0 50 = some true := by decide
  have e2 : impl_within.f 10 0 40 = some true := by decide
  unfold impl_SeedDays.f impl_ValidWeather.f
  simp only [e0, e1, e2, Option.bind_some]
  exact Evn.bind (okD xs (by omega) hx) (Evn.pos rfl (Evn.pos trivial (Evn.pos trivial (Evn.pos trivial (iSeed_loop xs hl d h0 h1 (xs.length + 1 - d) 0 (by omega))))))

/-- Two days exchanged. -/
def swapM (xs : List (S43)) (a b : Nat) : List (S43) := (xs.set a (rd_T43 xs b)).set b (rd_T43 xs a)
theorem rd_get (xs : List (S43)) (i : Nat) (h : i < xs.length) : rd_T43 xs (i : Int) = xs[i] := by
  unfold rd_T43
  rw [Int.toNat_natCast, List.getD_eq_getElem?_getD, List.getElem?_eq_getElem h]
  rfl
theorem swap_len (xs : List (S43)) (a b : Nat) : (swapM xs a b).length = xs.length := by simp [swapM]
theorem swap_mem (xs : List (S43)) (a b : Nat) (ha : a < xs.length) (hb : b < xs.length) (hx : ∀ x ∈ xs, DayIn x) : ∀ x ∈ swapM xs a b, DayIn x := fun x hm => by
  unfold swapM at hm
  rcases List.mem_or_eq_of_mem_set hm with hm | rfl
  · rcases List.mem_or_eq_of_mem_set hm with hm | rfl
    · exact hx x hm
    · exact hx _ (rd_mem xs b hb)
  · exact hx _ (rd_mem xs a ha)
theorem swap_back (xs : List (S43)) (a b : Nat) (ha : a < xs.length) (hb : b < xs.length) : swapM (swapM xs a b) b a = xs := by
  have la : a < (swapM xs a b).length := by rw [swap_len]; exact ha
  have lb : b < (swapM xs a b).length := by rw [swap_len]; exact hb
  have eb : rd_T43 (swapM xs a b) (b : Int) = xs[a] := by
    rw [rd_get _ _ lb]
    simp [swapM, rd_get xs a ha]
  have ea : rd_T43 (swapM xs a b) (a : Int) = xs[b] := by
    rw [rd_get _ _ la]
    simp only [swapM, List.getElem_set]
    by_cases e : b = a
    · subst e
      simp [rd_get xs b hb]
    · rw [if_neg e, if_pos trivial, rd_get xs b hb]
  refine List.ext_getElem (by simp [swapM]) (fun j h1 h2 => ?_)
  show (((swapM xs a b).set b (rd_T43 (swapM xs a b) a)).set a (rd_T43 (swapM xs a b) b))[j]'_ = _
  simp only [List.getElem_set, ea, eb]
  by_cases e1 : a = j
  · subst e1
    rw [if_pos rfl]
  · rw [if_neg e1]
    by_cases e2 : b = j
    · subst e2
      rw [if_pos rfl]
    · rw [if_neg e2]
      simp only [swapM, List.getElem_set]
      rw [if_neg e2, if_neg e1]
theorem last_in {a n : Nat} (h : a < n) (hn : n ≤ 8) : spec_l00In.f a 0 (wrap64 ((n : Int) - 1)) = some true ∧ impl_within.f a 0 (wrap64 ((n : Int) - 1)) = some true := by
  rw [wrap64_in (by omega) (by omega)]
  refine ⟨?_, ?_⟩
  · unfold spec_l00In.f
    rw [if_pos (by omega), decide_eq_true (by omega)]
  · unfold impl_within.f
    rw [if_pos (by omega), decide_eq_true (by omega)]
theorem clone_is (xs : List (S43)) (hl : xs.length ≤ 1048576) : impl_Weather_63.f xs = some xs := by
  unfold impl_Weather_63.f
  simp only [Option.bind_some, List.length_nil, List.nil_append]
  rw [if_pos (by omega)]
theorem iSwap (xs : List (S43)) (hl : xs.length ≤ 8) (hx : ∀ x ∈ xs, DayIn x) (a b : Nat) (ha : a < xs.length) (hb : b < xs.length) : Evn (fun k => impl_SwapDays.f k xs a b) (swapM xs a b, 0) := by
  unfold impl_SwapDays.f impl_ValidWeather.f
  simp only [(last_in ha hl).2, (last_in hb hl).2, clone_is xs (by omega), Option.bind_some, Int.toNat_natCast]
  exact Evn.bind (okD xs (by omega) hx) (Evn.pos rfl (Evn.pos trivial (Evn.pos trivial (Evn.pos (by omega) (Evn.pos (by omega) (Evn.pos (by omega) (Evn.pos (by omega) (Evn.now _))))))))
theorem sSwap (xs : List (S43)) (hl : xs.length ≤ 8) (hx : ∀ x ∈ xs, DayIn x) (a b : Nat) (ha : a < xs.length) (hb : b < xs.length) : Evn (fun k => spec_SwapDays.f k xs a b) (swapM xs a b, 0) := by
  unfold spec_SwapDays.f
  simp only [(last_in ha hl).1, (last_in hb hl).1, Option.bind_some, Int.toNat_natCast, List.nil_append, List.length_nil]
  exact Evn.pos trivial (Evn.bind (asked_is xs (by omega) hx) (Evn.pos rfl (Evn.pos (by omega) (Evn.pos (by omega) (Evn.pos (by omega) (Evn.pos (by omega) (Evn.pos (by omega) (Evn.pos (by omega) (Evn.pos (by omega) (Evn.now _))))))))))

/-- Weather, written and read. -/
theorem day_ok {x : S43} (h : DayIn x) : okW x = true ∧ mkC (x.f0.toNat, x.f1.toNat) = x ∧ x.f0.toNat ≤ 50 ∧ x.f1.toNat ≤ 40 := by
  obtain ⟨⟨a0, a1⟩, b0, b1⟩ := h
  refine ⟨?_, ?_, by omega, by omega⟩
  · unfold okW
    rw [wrap64_in (by omega) (by omega), wrap64_in (by omega) (by omega)]
    simp [a0, b0]
    omega
  · unfold mkC
    cases x with
    | mk p q => simp only [Int.toNat_of_nonneg a0, Int.toNat_of_nonneg b0]
theorem leans_of : ∀ (xs : List (S43)), (∀ x ∈ xs, DayIn x) → leans (xs.map fun c => (pcW c).data.toList) = some xs
  | [], _ => rfl
  | x :: xs, hx => by
    obtain ⟨_, e, h1, h2⟩ := day_ok (hx x List.mem_cons_self)
    have hp := pc_list (x.f0.toNat, x.f1.toNat) h1 h2
    rw [e] at hp
    have hl := lean_of (x.f0.toNat, x.f1.toNat) h1 h2
    rw [e] at hl
    simp only [List.map_cons, leans]
    rw [hp, hl, leans_of xs (fun y hy => hx y (List.mem_cons_of_mem _ hy))]
    rfl
theorem no_blank {x : S43} (h : DayIn x) : (32 : UInt8) ∉ (pcW x).data.toList := by
  obtain ⟨_, e, h1, h2⟩ := day_ok h
  have hp := pc_list (x.f0.toNat, x.f1.toNat) h1 h2
  rw [e] at hp
  rw [hp]
  unfold pcL
  intro hm
  rcases List.mem_append.1 hm with hm | hm
  · exact no_sep _ 32 (by decide) hm
  · rcases List.mem_cons.1 hm with e | hm
    · cases e
    · exact no_sep _ 32 (by decide) hm
theorem text_read (xs : List (S43)) (hl : xs.length ≤ 8) (hx : ∀ x ∈ xs, DayIn x) : ∃ t, Evn (fun k => impl_WeatherText.f k xs) t ∧ Evn (fun k => impl_ReadWeather.f k t) (xs, 0) := by
  have hok : ∀ c ∈ xs, okW c = true := fun c hc => (day_ok (hx c hc)).1
  have hT := text_of xs (by omega) hok
  refine ⟨ansW xs, impl_weather xs (by omega), ?_⟩
  unfold impl_ReadWeather.f
  simp only [Option.bind_some]
  cases xs with
  | nil =>
    have : (ansW ([] : List (S43))).toList = [] := by
      rw [hT, toList_is]
      rfl
    exact Evn.pos this (Evn.now _)
  | cons x xs =>
    have hspl : spl 32 (ansW (x :: xs)).data.toList = (x :: xs).map fun c => (pcW c).data.toList := by
      rw [hT, jB_list, List.map_map]
      refine spl_join 32 _ (by simp) ?_
      intro w hw
      obtain ⟨c, hc, rfl⟩ := List.mem_map.1 hw
      exact no_blank (hx c hc)
    have hne : ¬ (ansW (x :: xs)).toList = [] := by
      intro e
      rw [toList_is] at e
      rw [e] at hspl
      have h1 := spl_one 32 [] (by simp)
      rw [h1] at hspl
      have h2 : (pcW x).data.toList = [] := by
        have := congrArg (fun l => l.headD [1]) hspl
        simpa using this.symm
      obtain ⟨_, e2, b1, b2⟩ := day_ok (hx x List.mem_cons_self)
      have hp := pc_list (x.f0.toNat, x.f1.toNat) b1 b2
      rw [e2, h2] at hp
      simp [pcL] at hp
    have hsz : (ansW (x :: xs)).size ≤ 1048576 := by
      rw [hT]
      have := jB_size ((x :: xs).map pcW) 7 (fun p hp => by
        obtain ⟨c, hc, rfl⟩ := List.mem_map.1 hp
        exact pcW_size (hok c hc))
      rw [List.length_map] at this
      omega
    obtain ⟨ws, hs, hm⟩ := words_is (ansW (x :: xs)) hsz
    obtain ⟨w1, w2⟩ := words_in (ansW (x :: xs)) hsz ws hm
    have h := impl_rloop (ansW (x :: xs)) ws w1 w2 ws.length 0 [] (by omega) rfl (by simp)
    rw [List.drop_zero, hm, hspl, leans_of _ hx] at h
    refine Evn.neg hne ?_
    rw [hs]
    have e : ansI (ansW (x :: xs)) [] (some (x :: xs)) = (x :: xs, 0) := by
      show (if 0 + (x :: xs).length ≤ 30 then (if ansW ([] ++ (x :: xs)) = ansW (x :: xs) then ([] ++ (x :: xs), (0 : Int)) else ([], 5)) else ([], 5)) = _
      rw [if_pos (by omega), List.nil_append, if_pos rfl]
    rw [e] at h
    exact h
end Go.Proofs.YtibpndhcijmhpaaGreatDoor.QG
