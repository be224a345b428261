/- Words: those of numbers that are kept. -/
import Derived.Test.YtchhjdjdhlfhlaaTurnW
namespace Go.Proofs.Ytchhjdjdhlfhlaa.L
set_option linter.unusedSimpArgs false
set_option linter.unusedVariables false
open Go.RowKit Go.Proofs.Ytchhjdjdhlfhlaa.B

/-- Is the k-th cell of this kind? -/
def ofB (L : Lw) (W : Nat) (kind : Int) (k : Nat) : Bool := L.c (srcN W k) == kind
/-- Those of the first n for which p says yes. -/
def keepL (p : Nat → Bool) (n : Nat) : List Nat := (List.range n).filter p
theorem keepL_succ (p : Nat → Bool) (n : Nat) : keepL p (n + 1) = keepL p n ++ if p n then [n] else [] := by
  unfold keepL
  rw [List.range_succ, List.filter_append]
  cases h : p n <;> simp [h]
theorem keepL_le (p : Nat → Bool) (n : Nat) : (keepL p n).length ≤ n := by
  have := List.length_filter_le p (List.range n)
  simpa [keepL] using this

theorem keepL_lt {p : Nat → Bool} {i : Nat} (hp : p i = false) : ∀ n, i < n → (keepL p n).length < n
  | 0, h => by omega
  | n + 1, h => by
    rw [keepL_succ, List.length_append]
    by_cases e : i = n
    · subst e
      rw [hp]
      have := keepL_le p i
      simp; omega
    · have := keepL_lt hp n (by omega)
      split <;> simp <;> omega
theorem keepL_all {p : Nat → Bool} {n : Nat} (h : ∀ k, k < n → p k = true) : (keepL p n).length = n := by
  unfold keepL
  rw [List.filter_eq_self.2 (fun x hx => h x (by simpa using hx))]
  simp
theorem keepL_first {p : Nat → Bool} {i : Nat} (hp : p i = false) (h : ∀ k, k < i → p k = true) : (keepL p (i + 1)).length = i := by
  rw [keepL_succ, List.length_append, keepL_all h, hp]; simp
end Go.Proofs.Ytchhjdjdhlfhlaa.L
