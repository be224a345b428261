/- Plain laws: spells. -/
import Derived.Test.YtibpndhcijmhpaaGreatDoorGrassR
namespace Go.Proofs.YtibpndhcijmhpaaGreatDoor.QG
set_option linter.unusedSimpArgs false
set_option linter.unusedVariables false
open Go.RowKit Go.Proofs.YtibpndhcijmhpaaGreatDoor.B Go.Proofs.YtibpndhcijmhpaaGreatDoorW.PrintWords Go.Proofs.YtibpndhcijmhpaaGreatDoorW.PrintLast Go.Proofs.YtibpndhcijmhpaaGreatDoorW.PrintMore

def inr (x : S43) : Prop := (-128 ≤ x.f0 ∧ x.f0 ≤ 127) ∧ -128 ≤ x.f1 ∧ x.f1 ≤ 127
theorem rd_inr {xs : List (S43)} (h : ∀ x ∈ xs, inr x) (i : Int) : inr (rd_T43 xs i) := by
  unfold rd_T43
  rw [List.getD_eq_getElem?_getD]
  cases e : xs[i.toNat]? with
  | none => exact ⟨⟨by decide, by decide⟩, by decide, by decide⟩
  | some x => exact h x (List.mem_of_getElem? e)
/-- A spell: m dry days from d on. -/
def run (z : Nat → Bool) (len d m : Nat) : Prop := d + m ≤ len ∧ ∀ j, j < m → z (d + j) = true
/-- The longest spell, and of those the first. -/
def Best (z : Nat → Bool) (len b q : Nat) : Prop := run z len b q ∧ (∀ d m, run z len d m → m ≤ q) ∧ ∀ d, d < b → ¬ run z len d q
theorem Best.one {z : Nat → Bool} {len b q b2 q2 : Nat} (h : Best z len b q) (h2 : Best z len b2 q2) : b = b2 ∧ q = q2 := by
  have e1 := h.2.1 _ _ h2.1
  have e2 := h2.2.1 _ _ h.1
  have e : q = q2 := by omega
  subst e
  refine ⟨?_, rfl⟩
  rcases Nat.lt_trichotomy b b2 with hlt | rfl | hlt
  · exact absurd h.1 (h2.2.2 b hlt)
  · rfl
  · exact absurd h2.1 (h.2.2 b2 hlt)

/-- Is day j dry? -/
def dry (xs : List (S43)) (j : Nat) : Bool := (rd_T43 xs j).f0 == 0

/-- The reference's state before day i. -/
def SInv (z : Nat → Bool) (i best most long : Nat) : Prop :=
  (long ≤ i ∧ (∀ j, j < long → z (i - long + j) = true) ∧ (∀ m, m ≤ i → (∀ j, j < m → z (i - m + j) = true) → m ≤ long)) ∧
  best + most ≤ i ∧ (∀ j, j < most → z (best + j) = true) ∧ (∀ d m, d + m ≤ i → (∀ j, j < m → z (d + j) = true) → m ≤ most) ∧ (∀ d, d < best → d + most ≤ i → ¬ ∀ j, j < most → z (d + j) = true) ∧ long ≤ most

theorem SInv.wet {z : Nat → Bool} {i best most long : Nat} (h : SInv z i best most long) (hz : z i = false) : SInv z (i + 1) best most 0 := by
  obtain ⟨⟨h1, h2, h3⟩, h4, h5, h6, h7, h8⟩ := h
  have last : ∀ d m, d + m = i + 1 → (∀ j, j < m → z (d + j) = true) → m = 0 := by
    intro d m hd hr
    apply Classical.byContradiction
    intro hm
    have := hr (m - 1) (by omega)
    rw [show d + (m - 1) = i by omega, hz] at this
    cases this
  refine ⟨⟨by omega, fun j hj => by omega, fun m hm hr => by rw [last (i + 1 - m) m (by omega) hr]; omega⟩, by omega, h5, fun d m hd hr => ?_, fun d hd hd2 hr => ?_, by omega⟩
  · by_cases e : d + m ≤ i
    · exact h6 d m e hr
    · rw [last d m (by omega) hr]; omega
  · exact h7 d hd (by omega) hr
theorem SInv.dry {z : Nat → Bool} {i best most long : Nat} (h : SInv z i best most long) (hz : z i = true) : (most < long + 1 → SInv z (i + 1) (i - long) (long + 1) (long + 1)) ∧ (¬ most < long + 1 → SInv z (i + 1) best most (long + 1)) := by
  obtain ⟨⟨h1, h2, h3⟩, h4, h5, h6, h7, h8⟩ := h
  have ends : ∀ d m, d + m = i + 1 → (∀ j, j < m → z (d + j) = true) → m ≤ long + 1 := by
    intro d m hd hr
    by_cases e : m = 0
    · omega
    have := h3 (m - 1) (by omega) (fun j hj => by
      have := hr j (by omega)
      rwa [show d + j = i - (m - 1) + j by omega] at this)
    omega
  have run1 : ∀ j, j < long + 1 → z (i - long + j) = true := by
    intro j hj
    by_cases e : j = long
    · rw [e, show i - long + long = i by omega]; exact hz
    · exact h2 j (by omega)
  have runs : long + 1 ≤ i + 1 ∧ (∀ j, j < long + 1 → z (i + 1 - (long + 1) + j) = true) ∧ (∀ m, m ≤ i + 1 → (∀ j, j < m → z (i + 1 - m + j) = true) → m ≤ long + 1) :=
    ⟨by omega, fun j hj => by rw [show i + 1 - (long + 1) + j = i - long + j by omega]; exact run1 j hj, fun m hm hr => ends (i + 1 - m) m (by omega) hr⟩
  constructor
  · intro hlt
    refine ⟨runs, by omega, run1, fun d m hd hr => ?_, fun d hd hd2 hr => ?_, by omega⟩
    · by_cases e : d + m ≤ i
      · have := h6 d m e hr; omega
      · exact ends d m (by omega) hr
    · have := h6 d (long + 1) (by omega) hr; omega
  · intro hlt
    refine ⟨runs, by omega, h5, fun d m hd hr => ?_, fun d hd hd2 hr => ?_, by omega⟩
    · by_cases e : d + m ≤ i
      · exact h6 d m e hr
      · have := ends d m (by omega) hr; omega
    · exact h7 d hd (by omega) hr
theorem SInv.best {z : Nat → Bool} {len best most long : Nat} (h : SInv z len best most long) : Best z len best most := by
  obtain ⟨_, h4, h5, h6, h7, _⟩ := h
  exact ⟨⟨h4, h5⟩, fun d m hr => h6 d m hr.1 hr.2, fun d hd hr => h7 d hd hr.1 hr.2⟩

theorem sDriest_loop (xs : List (S43)) (hl : xs.length ≤ 30) (hin : ∀ x ∈ xs, inr x) (hok : ∀ j : Int, 0 ≤ j → j < xs.length → day_ (rd_T43 xs j) = true) : ∀ (n i best most long : Nat), i + n = xs.length → SInv (dry xs) i best most long →
    ∃ b q : Nat, Best (dry xs) xs.length b q ∧ Evn (fun k => spec_DriestSpell.l0 k xs best most long i) (if (q : Int) = 0 then (0, 0, 6) else ((b : Int), (q : Int), 0)) := by
  intro n
  induction n with
  | zero =>
    intro i best most long hi h
    obtain rfl : i = xs.length := by omega
    refine ⟨best, most, h.best, Evn.succ ?_⟩
    simp only [spec_DriestSpell.l0]
    refine Evn.neg (by omega) ?_
    by_cases e : (most : Int) = 0
    · simp only [if_pos e]; exact Evn.now _
    · simp only [if_neg e]; exact Evn.now _
  | succ n ih =>
    intro i best most long hi h
    have hd := hok i (by omega) (by omega)
    have hr := rd_inr hin (i : Int)
    have hz : 0 ≤ (rd_T43 xs i).f0 := by
      unfold day_ at hd
      simp only [Bool.and_eq_true, decide_eq_true_eq] at hd
      have := hd.1.1
      rwa [wrap64_in (by have := hr.1.1; omega) (by have := hr.1.2; omega)] at this
    have bd : best + most ≤ i ∧ long ≤ i ∧ long ≤ most := ⟨h.2.1, h.1.1, h.2.2.2.2.2⟩
    by_cases hw : (rd_T43 xs i).f0 > 0
    · have hz2 : dry xs i = false := by unfold dry; simp; omega
      obtain ⟨b, q, hb, he⟩ := ih (i + 1) best most 0 (by omega) (h.wet hz2)
      refine ⟨b, q, hb, Evn.succ ?_⟩
      simp only [spec_DriestSpell.l0]
      refine Evn.pos (by omega) (Evn.pos (by omega) (Evn.pos hw (Evn.neg (by omega) ?_)))
      rw [wrap64_in (x := (i : Int) + 1) (by omega) (by omega)]
      exact he
    · have hz2 : dry xs i = true := by unfold dry; simp; omega
      by_cases hlt : most < long + 1
      · obtain ⟨b, q, hb, he⟩ := ih (i + 1) (i - long) (long + 1) (long + 1) (by omega) ((h.dry hz2).1 hlt)
        refine ⟨b, q, hb, Evn.succ ?_⟩
        simp only [spec_DriestSpell.l0]
        rw [wrap64_in (x := (long : Int) + 1) (by omega) (by omega), wrap64_in (x := (i : Int) + 1) (by omega) (by omega), wrap64_in (x := (i : Int) - (long + 1)) (by omega) (by omega), wrap64_in (x := (i : Int) - (long + 1) + 1) (by omega) (by omega)]
        refine Evn.pos (by omega) (Evn.pos (by omega) (Evn.neg hw (Evn.pos (by omega) ?_)))
        rw [show (i : Int) - (long + 1) + 1 = ((i - long : Nat) : Int) by omega]
        exact he
      · obtain ⟨b, q, hb, he⟩ := ih (i + 1) best most (long + 1) (by omega) ((h.dry hz2).2 hlt)
        refine ⟨b, q, hb, Evn.succ ?_⟩
        simp only [spec_DriestSpell.l0]
        rw [wrap64_in (x := (long : Int) + 1) (by omega) (by omega), wrap64_in (x := (i : Int) + 1) (by omega) (by omega)]
        exact Evn.pos (by omega) (Evn.pos (by omega) (Evn.neg hw (Evn.neg (by omega) he)))

theorem iDriest_in (xs : List (S43)) (hl : xs.length ≤ 30) (first long i : Nat) : ∀ (m n : Nat), i + n + m = xs.length → (∀ j, j < n → dry xs (i + j) = true) →
    ∃ n' : Nat, i + n' ≤ xs.length ∧ (∀ j, j < n' → dry xs (i + j) = true) ∧ (i + n' = xs.length ∨ dry xs (i + n') = false) ∧ ∀ r, Evn (fun k => if (n' : Int) > long then impl_DriestSpell.l0 k xs i n' (xs.length : Int) (wrap64 ((i : Int) + 1)) else impl_DriestSpell.l0 k xs first long (xs.length : Int) (wrap64 ((i : Int) + 1))) r →
      Evn (fun k => impl_DriestSpell.l1 k xs first long i n (xs.length : Int) i) r := by
  intro m
  induction m with
  | zero =>
    intro n hi hr
    refine ⟨n, by omega, hr, Or.inl (by omega), fun r h => Evn.succ ?_⟩
    simp only [impl_DriestSpell.l1]
    rw [wrap64_in (x := (i : Int) + n) (by omega) (by omega)]
    exact Evn.neg (by omega) h
  | succ m ih =>
    intro n hi hr
    by_cases hz : dry xs (i + n) = true
    · obtain ⟨n', a1, a2, a3, a4⟩ := ih (n + 1) (by omega) (fun j hj => by
        by_cases e : j = n
        · rw [e]; exact hz
        · exact hr j (by omega))
      refine ⟨n', a1, a2, a3, fun r h => Evn.succ ?_⟩
      simp only [impl_DriestSpell.l1]
      rw [wrap64_in (x := (i : Int) + n) (by omega) (by omega), wrap64_in (x := (n : Int) + 1) (by omega) (by omega)]
      refine Evn.pos (by omega) (Evn.pos (by omega) (Evn.pos (by unfold dry at hz; simpa using hz) ?_))
      exact a4 r h
    · refine ⟨n, by omega, hr, Or.inr (by simpa using hz), fun r h => Evn.succ ?_⟩
      simp only [impl_DriestSpell.l1]
      rw [wrap64_in (x := (i : Int) + n) (by omega) (by omega)]
      exact Evn.pos (by omega) (Evn.pos (by omega) (Evn.neg (by unfold dry at hz; simpa using hz) h))

theorem iDriest_loop (xs : List (S43)) (hl : xs.length ≤ 30) : ∀ (n i first long : Nat), i + n = xs.length → run (dry xs) xs.length first long → (∀ d m, d < i → run (dry xs) xs.length d m → m ≤ long) → (∀ d, d < first → ¬ run (dry xs) xs.length d long) → first ≤ i →
    ∃ b q : Nat, Best (dry xs) xs.length b q ∧ Evn (fun k => impl_DriestSpell.l0 k xs first long (xs.length : Int) i) (if (q : Int) = 0 then (0, 0, 6) else ((b : Int), (q : Int), 0)) := by
  intro n
  induction n with
  | zero =>
    intro i first long hi h1 h2 h3 h4
    refine ⟨first, long, ⟨h1, fun d m hr => ?_, h3⟩, Evn.succ ?_⟩
    · by_cases e : d < i
      · exact h2 d m e hr
      · have := hr.1; omega
    · simp only [impl_DriestSpell.l0]
      refine Evn.neg (by omega) ?_
      by_cases e : (long : Int) = 0
      · simp only [if_pos e]; exact Evn.now _
      · simp only [if_neg e]; exact Evn.now _
  | succ n ih =>
    intro i first long hi h1 h2 h3 h4
    obtain ⟨n', a1, a2, a3, a4⟩ := iDriest_in xs hl first long i (xs.length - i) 0 (by omega) (fun j hj => by omega)
    have most : ∀ m, run (dry xs) xs.length i m → m ≤ n' := by
      intro m hr
      apply Classical.byContradiction
      intro hm
      rcases a3 with e | e
      · have := hr.1; omega
      · have := hr.2 n' (by omega)
        rw [e] at this; cases this
    have w1 : wrap64 ((i : Int) + 1) = ((i + 1 : Nat) : Int) := by rw [wrap64_in (by omega) (by omega)]; omega
    by_cases hlt : (n' : Int) > long
    · obtain ⟨b, q, hb, he⟩ := ih (i + 1) i n' (by omega) ⟨a1, a2⟩ (fun d m hd hr => by
        by_cases e : d = i
        · subst e; exact most m hr
        · have := h2 d m (by omega) hr; omega) (fun d hd hr => by have := h2 d n' hd hr; omega) (by omega)
      refine ⟨b, q, hb, Evn.succ ?_⟩
      simp only [impl_DriestSpell.l0]
      refine Evn.pos (by omega) (a4 _ ?_)
      rw [w1]
      exact Evn.pos hlt he
    · obtain ⟨b, q, hb, he⟩ := ih (i + 1) first long (by omega) h1 (fun d m hd hr => by
        by_cases e : d = i
        · subst e; have := most m hr; omega
        · exact h2 d m (by omega) hr) h3 (by omega)
      refine ⟨b, q, hb, Evn.succ ?_⟩
      simp only [impl_DriestSpell.l0]
      refine Evn.pos (by omega) (a4 _ ?_)
      rw [w1]
      exact Evn.neg hlt he


theorem day_of {x : S43} (h : DayIn x) : day_ x = true := by
  have := day_in h
  rw [day_spec] at this
  exact Option.some.inj this
theorem driest_is (xs : List (S43)) (hl : xs.length ≤ 30) (hx : ∀ x ∈ xs, DayIn x) : ∃ b q c : Nat, Evn (fun k => spec_DriestSpell.f k xs) ((b : Int), (q : Int), (c : Int)) ∧ Evn (fun k => impl_DriestSpell.f k xs) ((b : Int), (q : Int), (c : Int)) ∧ (c = 0 ∨ c = 6) ∧ (xs.length = 0 → c = 6) ∧ (∀ d m, run (dry xs) xs.length d m → m ≤ q) ∧ ∀ d, 0 < q → d < b → ¬ run (dry xs) xs.length d q := by
  have hb := okD xs hl hx
  have hi : Evn (fun k => impl_ValidWeather.f k xs) true := hb
  have hin : ∀ x ∈ xs, inr x := fun x hm => by
    obtain ⟨⟨a, b⟩, c, d⟩ := hx x hm
    exact ⟨⟨by omega, by omega⟩, by omega, by omega⟩
  have hday : ∀ j : Int, 0 ≤ j → j < xs.length → day_ (rd_T43 xs j) = true := fun j h0 h1 => by
    have := rd_mem xs j.toNat (by omega)
    rw [Int.toNat_of_nonneg h0] at this
    exact day_of (hx _ this)
  unfold spec_DriestSpell.f impl_DriestSpell.f
  obtain ⟨b1, q1, e1, h1⟩ := sDriest_loop xs (by omega) hin hday xs.length 0 0 0 0 (by omega) ⟨⟨by omega, fun j hj => by omega, fun m hm _ => by omega⟩, by omega, fun j hj => by omega, fun d m hd _ => by omega, fun d hd => by omega, by omega⟩
  obtain ⟨b2, q2, e2, h2⟩ := iDriest_loop xs (by omega) xs.length 0 0 0 (by omega) ⟨by omega, fun j hj => by omega⟩ (fun d m hd => by omega) (fun d hd => by omega) (by omega)
  obtain ⟨rfl, rfl⟩ := e1.one e2
  by_cases e : (q1 : Int) = 0
  · rw [if_pos e] at h1 h2
    exact ⟨0, 0, 6, Evn.bind hb (Evn.pos rfl h1), Evn.bind hi (Evn.pos rfl h2), .inr rfl, fun _ => rfl, fun d m hr => by have := e1.2.1 d m hr; omega, fun d h => by omega⟩
  · rw [if_neg e] at h1 h2
    exact ⟨b1, q1, 0, Evn.bind hb (Evn.pos rfl h1), Evn.bind hi (Evn.pos rfl h2), .inl rfl, fun h => by have := e1.1.1; omega, e1.2.1, fun d _ hd => e1.2.2 d hd⟩
end Go.Proofs.YtibpndhcijmhpaaGreatDoor.QG
