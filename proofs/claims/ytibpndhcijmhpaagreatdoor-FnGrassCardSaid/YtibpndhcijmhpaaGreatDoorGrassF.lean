/- Plain laws: boxes, wettest days, seeds, days exchanged. -/
import Derived.Test.YtibpndhcijmhpaaGreatDoorGrassE
namespace Go.Proofs.YtibpndhcijmhpaaGreatDoor.QG
set_option linter.unusedSimpArgs false
set_option linter.unusedVariables false
open Go.RowKit Go.Proofs.YtibpndhcijmhpaaGreatDoor.B Go.Proofs.YtibpndhcijmhpaaGreatDoorW.PrintWords Go.Proofs.YtibpndhcijmhpaaGreatDoorW.PrintLast Go.Proofs.YtibpndhcijmhpaaGreatDoorW.PrintMore

/-- Boxes for clippings. -/
def bx (c : Int) : Int := (c * 30 + 99) / 100
theorem bx_text {c : Int} (h0 : 0 ≤ c) (h1 : c ≤ 200) : wrap64 (Int.tdiv (wrap64 ((wrap64 ((wrap64 (c * 30)) + 100)) - 1)) 100) = bx c := by
  rw [wrap64_in (x := c * 30) (by omega) (by omega), wrap64_in (x := c * 30 + 100) (by omega) (by omega), wrap64_in (x := c * 30 + 100 - 1) (by omega) (by omega), Int.tdiv_eq_ediv_of_nonneg (by omega), wrap64_in (by omega) (by omega)]
  unfold bx
  congr 1
  omega
theorem sBox_fine (cs : List Int) (hl : cs.length ≤ 30) (hc : ∀ c ∈ cs, 0 ≤ c ∧ c ≤ 200) (r : List Int × Int) (h : Evn (fun k => spec_BoxesFor.l1 k cs 30 100 [] 0) r) : ∀ (n i : Nat), i + n = cs.length → Evn (fun k => spec_BoxesFor.l0 k cs 30 100 [] true i) r := by
  intro n
  induction n with
  | zero =>
    intro i hi
    refine Evn.succ ?_
    simp only [spec_BoxesFor.l0]
    exact Evn.neg (by omega) (Evn.pos trivial (Evn.neg (by omega) h))
  | succ n ih =>
    intro i hi
    have hm := hc _ (rdI_mem cs i (by omega))
    refine Evn.succ ?_
    simp only [spec_BoxesFor.l0, up64 (show i ≤ 1000 by omega), high_in hm.1 hm.2, Option.bind_some]
    exact Evn.pos (by omega) (Evn.pos trivial (Evn.pos (by omega) (ih (i + 1) (by omega))))
theorem sBox_loop (cs : List Int) (hl : cs.length ≤ 30) (hc : ∀ c ∈ cs, 0 ≤ c ∧ c ≤ 200) : ∀ (n i : Nat) (acc : List Int), i + n = cs.length → acc.length = i → Evn (fun k => spec_BoxesFor.l1 k cs 30 100 acc i) (acc ++ (cs.drop i).map bx, 0) := by
  intro n
  induction n with
  | zero =>
    intro i acc hi ha
    rw [List.drop_eq_nil_of_le (by omega)]
    refine Evn.succ ?_
    simp only [spec_BoxesFor.l1]
    exact Evn.neg (by omega) (by simpa using Evn.now _)
  | succ n ih =>
    intro i acc hi ha
    have hm := hc _ (rdI_mem cs i (by omega))
    have h2 := ih (i + 1) (acc ++ [bx (rd cs i)]) (by omega) (by simp [ha])
    rw [drop_I cs i (by omega), List.map_cons]
    refine Evn.succ ?_
    simp only [spec_BoxesFor.l1, up64 (show i ≤ 1000 by omega), bx_text hm.1 hm.2]
    refine Evn.pos (by omega) (Evn.pos (by omega) (Evn.neg (by decide) (Evn.pos (by omega) ?_)))
    simpa using h2
theorem sBoxes (cs : List Int) (hl : cs.length ≤ 30) (hc : ∀ c ∈ cs, 0 ≤ c ∧ c ≤ 200) : Evn (fun k => spec_BoxesFor.f k cs 30 100) (cs.map bx, 0) := by
  have e1 : spec_l00In.f 30 0 100 = some true := by decide
  have e2 : spec_l00In.f 100 1 10000 = some true := by decide
  have h := sBox_loop cs hl hc cs.length 0 [] (by omega) rfl
  rw [List.drop_zero, List.nil_append] at h
  unfold spec_BoxesFor.f
  simp only [e1, e2, Option.bind_some]
  refine Evn.pos trivial (Evn.succ ?_)
  simp only [spec_BoxesFor.j0]
  exact sBox_fine cs hl hc _ h cs.length 0 (by omega)
theorem iBox_loop (cs : List Int) (hl : cs.length ≤ 30) (hc : ∀ c ∈ cs, 0 ≤ c ∧ c ≤ 200) : ∀ (n i : Nat) (acc : List Int), i + n = cs.length → acc.length = i → Evn (fun k => impl_BoxesFor.l0 k 30 100 acc cs cs.length i) (acc ++ (cs.drop i).map bx, 0) := by
  intro n
  induction n with
  | zero =>
    intro i acc hi ha
    rw [List.drop_eq_nil_of_le (by omega)]
    refine Evn.succ ?_
    simp only [impl_BoxesFor.l0]
    exact Evn.neg (by omega) (by simpa using Evn.now _)
  | succ n ih =>
    intro i acc hi ha
    have hm := hc _ (rdI_mem cs i (by omega))
    have h2 := ih (i + 1) (acc ++ [bx (rd cs i)]) (by omega) (by simp [ha])
    rw [drop_I cs i (by omega), List.map_cons]
    refine Evn.succ ?_
    simp only [impl_BoxesFor.l0, up64 (show i ≤ 1000 by omega), bx_text hm.1 hm.2]
    refine Evn.pos (by omega) (Evn.pos (by omega) (Evn.pos (by omega) (Evn.neg (by decide) (Evn.pos (by omega) ?_))))
    simpa using h2
theorem iBoxes (cs : List Int) (hl : cs.length ≤ 30) (hc : ∀ c ∈ cs, 0 ≤ c ∧ c ≤ 200) : Evn (fun k => impl_BoxesFor.f k cs 30 100) (cs.map bx, 0) := by
  have e1 : impl_within.f 30 0 100 = some true := by decide
  have e2 : impl_within.f 100 1 10000 = some true := by decide
  have e3 : boxes_any.f cs = some false := by
    unfold boxes_any.f
    rw [if_pos (by omega)]
    have : cs.all clip_ = true := by
      rw [List.all_eq_true]
      intro c hm
      have := hc c hm
      simp [clip_, this.1, this.2]
    rw [this]
    rfl
  have h := iBox_loop cs hl hc cs.length 0 [] (by omega) rfl
  rw [List.drop_zero, List.nil_append] at h
  unfold impl_BoxesFor.f
  simp only [e1, e2, e3, Option.bind_some]
  refine Evn.neg (by simp) (Evn.pos trivial (Evn.succ ?_))
  simp only [impl_BoxesFor.j0]
  exact Evn.neg (by simp) (Evn.neg (by omega) h)

/-- The rain of k days from day i on. -/
def rainM (xs : List (S43)) (i : Nat) : Nat → Int
  | 0 => 0
  | k + 1 => rainM xs i k + (rd_T43 xs ((i + k : Nat) : Int)).f0
theorem rain_in (xs : List (S43)) (hx : ∀ x ∈ xs, DayIn x) (i : Nat) : ∀ k, i + k ≤ xs.length → 0 ≤ rainM xs i k ∧ rainM xs i k ≤ 39 * k
  | 0, _ => ⟨by simp [rainM], by simp [rainM]⟩
  | k + 1, h => by
    have ih := rain_in xs hx i k (by omega)
    have hm := (hx _ (rd_mem xs (i + k) (by omega))).1
    simp only [rainM]
    omega
/-- The wettest days among the first m starts. -/
def wetM (xs : List (S43)) (d : Nat) : Nat → Int × Int
  | 0 => (0, -1)
  | m + 1 => if rainM xs m d > (wetM xs d m).2 then ((m : Int), rainM xs m d) else wetM xs d m
theorem wet_lt (xs : List (S43)) (d : Nat) : ∀ m, 0 < m → 0 ≤ (wetM xs d m).2 → (wetM xs d m).1 < m
| 0, h, _ => by omega
| m + 1, _, h => by
  simp only [wetM] at h ⊢
  by_cases c : rainM xs m d > (wetM xs d m).2
  · rw [if_pos c]
    show (m : Int) < _
    omega
  · rw [if_neg c] at h ⊢
    rcases Nat.eq_zero_or_pos m with e | e
    · subst e
      simp [wetM] at h
    · have := wet_lt xs d m e h
      omega
theorem wet_prop (xs : List (S43)) (hx : ∀ x ∈ xs, DayIn x) (d : Nat) : ∀ m, m + d ≤ xs.length + 1 → (m = 0 → (wetM xs d m).2 = -1) ∧ (0 < m → 0 ≤ (wetM xs d m).2) ∧ (wetM xs d m).2 ≤ 39 * d ∧ (∀ i : Nat, i < m → rainM xs i d ≤ (wetM xs d m).2 ∧ (rainM xs i d = (wetM xs d m).2 → (wetM xs d m).1 ≤ i) ∧ ((i : Int) = (wetM xs d m).1 → rainM xs i d = (wetM xs d m).2)) ∧ 0 ≤ (wetM xs d m).1 ∧ (wetM xs d m).1 ≤ m
  | 0, _ => ⟨fun _ => rfl, fun h => by omega, by simp [wetM]; omega, fun i hi => by omega, by simp [wetM], by simp [wetM]⟩
  | m + 1, h => by
    obtain ⟨h0, h1, h2, h3, h4, h5⟩ := wet_prop xs hx d m (by omega)
    have hr := rain_in xs hx m d (by omega)
    simp only [wetM]
    by_cases c : rainM xs m d > (wetM xs d m).2
    · rw [if_pos c]
      refine ⟨fun e => by omega, fun _ => hr.1, hr.2, fun i hi => ?_, by simp, by simp; omega⟩
      by_cases e : i = m
      · subst e
        exact ⟨Int.le_refl _, fun _ => Int.le_refl _, fun _ => rfl⟩
      · have := h3 i (by omega)
        refine ⟨by show rainM xs i d ≤ rainM xs m d; omega, fun e2 => ?_, fun e2 => ?_⟩
        · have e3 : rainM xs i d = rainM xs m d := e2
          omega
        · have e3 : (i : Int) = (m : Int) := e2
          omega
    · rw [if_neg c]
      refine ⟨fun e => by omega, fun _ => ?_, h2, fun i hi => ?_, h4, by omega⟩
      · rcases Nat.eq_zero_or_pos m with e | e
        · have := h0 e
          omega
        · exact h1 e
      · by_cases e : i = m
        · subst e
          refine ⟨by omega, fun _ => by omega, fun e2 => ?_⟩
          rcases Nat.eq_zero_or_pos i with e3 | e3
          · have := h0 e3
            omega
          · rw [← e2] at h5
            have h6 := wet_lt xs d i e3 (h1 e3)
            omega
        · exact h3 i (by omega)
theorem asked_is (xs : List (S43)) (hl : xs.length ≤ 30) (hx : ∀ x ∈ xs, DayIn x) : Evn (fun k => spec_l03Asked.f k xs true) 0 := by
  unfold spec_l03Asked.f
  exact Evn.bind (okD xs hl hx) (Evn.pos rfl (Evn.pos rfl (Evn.now _)))
theorem sWet_in (xs : List (S43)) (hl : xs.length ≤ 8) (hx : ∀ x ∈ xs, DayIn x) (d i : Nat) (hd : i + d ≤ xs.length) (b q : Int) (r : Int × Int × Int)
    (h : Evn (fun k => if rainM xs i d > q then spec_WettestDays.l0 k xs d i (rainM xs i d) (wrap64 ((i : Int) + 1)) else spec_WettestDays.l0 k xs d b q (wrap64 ((i : Int) + 1))) r) :
    ∀ (m k : Nat), k + m = d → Evn (fun f => spec_WettestDays.l1 f xs d b q i (rainM xs i k) k) r := by
  intro m
  induction m with
  | zero =>
    intro k hk
    obtain rfl : k = d := by omega
    refine Evn.succ ?_
    simp only [spec_WettestDays.l1]
    exact Evn.neg (by omega) h
  | succ m ih =>
    intro k hk
    have hr := rain_in xs hx i k (by omega)
    have hm := (hx _ (rd_mem xs (i + k) (by omega))).1
    have w1 : wrap64 ((i : Int) + k) = ((i + k : Nat) : Int) := by rw [wrap64_in (by omega) (by omega)]; omega
    refine Evn.succ ?_
    simp only [spec_WettestDays.l1, w1, up64 (show k ≤ 1000 by omega)]
    rw [wrap64_in (x := (rd_T43 xs ((i + k : Nat) : Int)).f0) (by omega) (by omega), wrap64_in (x := rainM xs i k + (rd_T43 xs ((i + k : Nat) : Int)).f0) (by omega) (by omega)]
    exact Evn.pos (by omega) (Evn.pos (by omega) (Evn.pos (by omega) (ih (k + 1) (by omega))))
theorem sWet_loop (xs : List (S43)) (hl : xs.length ≤ 8) (hx : ∀ x ∈ xs, DayIn x) (d : Nat) (hd : d ≤ xs.length) : ∀ (n i : Nat), i + n = xs.length + 1 - d → Evn (fun k => spec_WettestDays.l0 k xs d (wetM xs d i).1 (wetM xs d i).2 i) ((wetM xs d (xs.length + 1 - d)).1, (wetM xs d (xs.length + 1 - d)).2, 0) := by
  intro n
  induction n with
  | zero =>
    intro i hi
    rw [show xs.length + 1 - d = i by omega]
    refine Evn.succ ?_
    simp only [spec_WettestDays.l0]
    rw [wrap64_in (by omega) (by omega)]
    exact Evn.neg (by omega) (Evn.now _)
  | succ n ih =>
    intro i hi
    have h2 := ih (i + 1) (by omega)
    refine Evn.succ ?_
    simp only [spec_WettestDays.l0]
    rw [wrap64_in (by omega) (by omega)]
    refine Evn.pos (by omega) (sWet_in xs hl hx d i (by omega) _ _ _ ?_ d 0 (by omega))
    rw [up64 (show i ≤ 1000 by omega)]
    simp only [wetM] at h2
    by_cases c : rainM xs i d > (wetM xs d i).2
    · rw [if_pos c] at h2
      exact Evn.pos c h2
    · rw [if_neg c] at h2
      exact Evn.neg c h2
theorem span_in {d : Nat} (h0 : 1 ≤ d) (h1 : d ≤ 30) : spec_l03Span.f d = some true := by
  unfold spec_l03Span.f spec_l00In.f
  rw [if_pos (by omega), decide_eq_true (by omega)]
  rfl
/-- What both tell of the wettest days. -/
def wetA (xs : List (S43)) (d : Nat) : Int × Int × Int := if d ≤ xs.length then ((wetM xs d (xs.length + 1 - d)).1, (wetM xs d (xs.length + 1 - d)).2, 0) else (0, 0, 6)
theorem sWet (xs : List (S43)) (hl : xs.length ≤ 8) (hx : ∀ x ∈ xs, DayIn x) (d : Nat) (h0 : 1 ≤ d) (h1 : d ≤ 30) : Evn (fun k => spec_WettestDays.f k xs d) (wetA xs d) := by
  unfold spec_WettestDays.f
  rw [span_in h0 h1]
  simp only [Option.bind_some]
  refine Evn.bind (asked_is xs (by omega) hx) (Evn.pos rfl (Evn.succ ?_))
  simp only [spec_WettestDays.j0]
  unfold wetA
  by_cases c : d ≤ xs.length
  · rw [if_pos c, decide_eq_false (by omega)]
    refine Evn.neg (by simp) (Evn.succ ?_)
    simp only [spec_WettestDays.j1]
    exact Evn.pos trivial (sWet_loop xs hl hx d c (xs.length + 1 - d) 0 (by omega))
  · rw [if_neg c, decide_eq_true (by omega)]
    refine Evn.pos rfl (Evn.succ ?_)
    simp only [spec_WettestDays.j1]
    exact Evn.neg (by decide) (Evn.now _)
theorem rd_sub (xs : List (S43)) (i d k : Nat) (h : i + d ≤ xs.length) (hk : k < d) : rd_T43 ((xs.take (i + d)).drop i) (k : Int) = rd_T43 xs ((i + k : Nat) : Int) := by
  unfold rd_T43
  rw [List.getD_eq_getElem?_getD, List.getD_eq_getElem?_getD, Int.toNat_natCast, Int.toNat_natCast, List.getElem?_drop, List.getElem?_take_of_lt (by omega)]
theorem iWet_in (xs : List (S43)) (hl : xs.length ≤ 8) (hx : ∀ x ∈ xs, DayIn x) (d i : Nat) (hd : i + d ≤ xs.length) (b q : Int) (r : Int × Int × Int)
    (h : Evn (fun k => if rainM xs i d > q then impl_WettestDays.l0 k xs d i (rainM xs i d) (wrap64 ((i : Int) + 1)) else impl_WettestDays.l0 k xs d b q (wrap64 ((i : Int) + 1))) r) :
    ∀ (m k : Nat), k + m = d → Evn (fun f => impl_WettestDays.l1 f xs d b q i (rainM xs i k) ((xs.take (i + d)).drop i) (((xs.take (i + d)).drop i).length : Int) k) r := by
  have hlen : ((xs.take (i + d)).drop i).length = d := by rw [List.length_drop, List.length_take]; omega
  intro m
  induction m with
  | zero =>
    intro k hk
    obtain rfl : k = d := by omega
    refine Evn.succ ?_
    simp only [impl_WettestDays.l1]
    exact Evn.neg (by omega) h
  | succ m ih =>
    intro k hk
    have hr := rain_in xs hx i k (by omega)
    have hm := (hx _ (rd_mem xs (i + k) (by omega))).1
    refine Evn.succ ?_
    simp only [impl_WettestDays.l1, up64 (show k ≤ 1000 by omega), rd_sub xs i d k hd (by omega)]
    rw [wrap64_in (x := (rd_T43 xs ((i + k : Nat) : Int)).f0) (by omega) (by omega), wrap64_in (x := rainM xs i k + (rd_T43 xs ((i + k : Nat) : Int)).f0) (by omega) (by omega)]
    exact Evn.pos (by omega) (Evn.pos (by omega) (Evn.pos (by omega) (ih (k + 1) (by omega))))
theorem iWet_loop (xs : List (S43)) (hl : xs.length ≤ 8) (hx : ∀ x ∈ xs, DayIn x) (d : Nat) (hd : d ≤ xs.length) : ∀ (n i : Nat), i + n = xs.length + 1 - d → Evn (fun k => impl_WettestDays.l0 k xs d (wetM xs d i).1 (wetM xs d i).2 i) ((wetM xs d (xs.length + 1 - d)).1, (wetM xs d (xs.length + 1 - d)).2, 0) := by
  intro n
  induction n with
  | zero =>
    intro i hi
    have hp := wet_prop xs hx d i (by omega)
    rw [show xs.length + 1 - d = i by omega]
    refine Evn.succ ?_
    simp only [impl_WettestDays.l0]
    rw [wrap64_in (by omega) (by omega)]
    have := hp.2.1 (by omega)
    exact Evn.neg (by omega) (Evn.neg (by omega) (Evn.now _))
  | succ n ih =>
    intro i hi
    have h2 := ih (i + 1) (by omega)
    have e1 : wrap64 ((i : Int) + d) = ((i + d : Nat) : Int) := by rw [wrap64_in (by omega) (by omega)]; omega
    refine Evn.succ ?_
    simp only [impl_WettestDays.l0, e1, Int.toNat_natCast, Option.bind_some]
    refine Evn.pos (by omega) (Evn.pos (by omega) (Evn.pos (by omega) (iWet_in xs hl hx d i (by omega) _ _ _ ?_ d 0 (by omega))))
    rw [up64 (show i ≤ 1000 by omega)]
    simp only [wetM] at h2
    by_cases c : rainM xs i d > (wetM xs d i).2
    · rw [if_pos c] at h2
      exact Evn.pos c h2
    · rw [if_neg c] at h2
      exact Evn.neg c h2
theorem iWet (xs : List (S43)) (hl : xs.length ≤ 8) (hx : ∀ x ∈ xs, DayIn x) (d : Nat) (h0 : 1 ≤ d) (h1 : d ≤ 30) : Evn (fun k => impl_WettestDays.f k xs d) (wetA xs d) := by
  have e1 : impl_within.f d 1 30 = some true := by
    unfold impl_within.f
    rw [if_pos (by omega), decide_eq_true (by omega)]
  unfold impl_WettestDays.f impl_ValidWeather.f
  rw [e1]
  simp only [Option.bind_some]
  refine Evn.bind (okD xs (by omega) hx) (Evn.pos rfl (Evn.pos trivial ?_))
  unfold wetA
  by_cases c : d ≤ xs.length
  · rw [if_pos c]
    exact iWet_loop xs hl hx d c (xs.length + 1 - d) 0 (by omega)
  · rw [if_neg c]
    refine Evn.succ ?_
    simp only [impl_WettestDays.l0]
    rw [wrap64_in (by omega) (by omega)]
    exact Evn.neg (by omega) (Evn.pos (by decide) (Evn.now _))
end Go.Proofs.YtibpndhcijmhpaaGreatDoor.QG
