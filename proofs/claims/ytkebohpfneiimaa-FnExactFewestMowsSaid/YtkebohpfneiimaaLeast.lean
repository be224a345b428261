/- Plain laws: the fewest days of mowing, and the late plan's length. -/
import Derived.Test.YtkebohpfneiimaaEv
namespace Go.Proofs.Ytkebohpfneiimaa.QM
set_option linter.unusedSimpArgs false
set_option linter.unusedVariables false

/-- The fewest days of mowing, 1000 if there is no plan. -/
def leastP (cut most : Int) : List Int → Int → Int
  | [], _ => 0
  | g :: gs, h => if min h cut + g ≤ most then min (if h + g ≤ most then leastP cut most gs (h + g) else 1000) (1 + leastP cut most gs (min h cut + g)) else (if h + g ≤ most then leastP cut most gs (h + g) else 1000)
/-- The late plan's length. -/
def lateP (cut most : Int) : List Int → Int → Option Nat
  | [], _ => some 0
  | g :: gs, h => if h + g > most then (if min h cut + g > most then none else (lateP cut most gs (min h cut + g)).map (· + 1)) else lateP cut most gs (h + g)
theorem leastP_in (cut most : Int) : ∀ (gs : List Int) (h : Int), 0 ≤ leastP cut most gs h ∧ leastP cut most gs h ≤ 1000
  | [], _ => by simp [leastP]
  | g :: gs, h => by
    have h1 := leastP_in cut most gs (h + g)
    have h2 := leastP_in cut most gs (min h cut + g)
    unfold leastP
    split <;> split <;> omega
theorem leastP_mono (cut most : Int) : ∀ (gs : List Int) (a b : Int), b ≤ a → leastP cut most gs b ≤ leastP cut most gs a
  | [], _, _, _ => by simp [leastP]
  | g :: gs, a, b, h => by
    have h1 := leastP_mono cut most gs (a + g) (b + g) (by omega)
    have h2 := leastP_mono cut most gs (min a cut + g) (min b cut + g) (by omega)
    have i1 := leastP_in cut most gs (b + g)
    have i2 := leastP_in cut most gs (min b cut + g)
    have i3 := leastP_in cut most gs (a + g)
    have i4 := leastP_in cut most gs (min a cut + g)
    unfold leastP
    split <;> split <;> split <;> split <;> omega
theorem leastP_one (cut most : Int) : ∀ (gs : List Int) (a b : Int), cut ≤ b → b ≤ a → leastP cut most gs a ≤ 1 + leastP cut most gs b
  | [], _, _, _, _ => by simp [leastP]
  | g :: gs, a, b, hb, h => by
    have e1 : min a cut = cut := by omega
    have e2 : min b cut = cut := by omega
    have h1 := leastP_mono cut most gs (b + g) (cut + g) (by omega)
    have i1 := leastP_in cut most gs (b + g)
    have i2 := leastP_in cut most gs (cut + g)
    have i3 := leastP_in cut most gs (a + g)
    unfold leastP
    rw [e1, e2]
    split <;> split <;> split <;> omega
theorem leastP_is (cut most : Int) (g : Int) (hg : 0 ≤ g) (gs : List Int) (h : Int) : leastP cut most (g :: gs) h = if h + g ≤ most then leastP cut most gs (h + g) else if min h cut + g ≤ most then min 1000 (1 + leastP cut most gs (min h cut + g)) else 1000 := by
  have i1 := leastP_in cut most gs (h + g)
  rw [leastP]
  by_cases c1 : h + g ≤ most
  · rw [if_pos c1, if_pos c1]
    split
    · by_cases c3 : h ≤ cut
      · have e : min h cut = h := by omega
        rw [e]; omega
      · have := leastP_one cut most gs (h + g) (min h cut + g) (by omega) (by omega)
        omega
    · rfl
  · rw [if_neg c1, if_neg c1]
theorem least_late (cut most : Int) : ∀ (gs : List Int) (h : Int), gs.length < 1000 → (∀ g ∈ gs, 0 ≤ g) → (∀ n, lateP cut most gs h = some n → leastP cut most gs h = n ∧ n ≤ gs.length) ∧ (lateP cut most gs h = none → leastP cut most gs h = 1000)
  | [], _, _, _ => by simp [leastP, lateP]
  | g :: gs, h, hl, hg => by
    rw [leastP_is cut most g (hg g (by simp))]
    have hg2 : ∀ x ∈ gs, 0 ≤ x := fun x hx => hg x (by simp [hx])
    simp only [lateP]
    have hl2 : gs.length < 1000 := by simp at hl; omega
    by_cases c1 : h + g > most
    · have c1n : ¬ (h + g ≤ most) := by omega
      rw [if_pos c1, if_neg c1n]
      by_cases c2 : min h cut + g > most
      · have c2n : ¬ (min h cut + g ≤ most) := by omega
        rw [if_pos c2, if_neg c2n]
        exact ⟨fun n hn => (by cases hn), fun _ => rfl⟩
      · have c2n : min h cut + g ≤ most := by omega
        rw [if_neg c2, if_pos c2n]
        obtain ⟨j1, j2⟩ := least_late cut most gs (min h cut + g) hl2 hg2
        cases e : lateP cut most gs (min h cut + g) with
        | none =>
          refine ⟨fun n hn => (by simp at hn), fun _ => ?_⟩
          rw [j2 e]; rfl
        | some m =>
          obtain ⟨k1, k2⟩ := j1 m e
          refine ⟨fun n hn => ?_, fun hn => (by simp at hn)⟩
          simp only [Option.map_some, Option.some.injEq] at hn
          subst hn
          rw [k1]
          simp at hl ⊢
          omega
    · have c1n : h + g ≤ most := by omega
      rw [if_neg c1, if_pos c1n]
      obtain ⟨j1, j2⟩ := least_late cut most gs (h + g) hl2 hg2
      refine ⟨fun n hn => ?_, j2⟩
      obtain ⟨k1, k2⟩ := j1 n hn
      exact ⟨k1, by simp; omega⟩
end Go.Proofs.Ytkebohpfneiimaa.QM
