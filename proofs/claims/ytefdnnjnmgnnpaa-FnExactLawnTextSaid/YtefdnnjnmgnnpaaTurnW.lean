/- Words: cells in rows, laid one by one; a slice of cells read at its block. -/
import Derived.Test.YtefdnnjnmgnnpaaAllS
namespace Go.Proofs.Ytefdnnjnmgnnpaa.L
set_option linter.unusedSimpArgs false
set_option linter.unusedVariables false
open Go.RowKit Go.Proofs.Ytefdnnjnmgnnpaa.B

/-- Cells laid one by one: the k-th comes from src k and goes to tgt k. -/
def laidC (tgt src : Nat → Nat) (c : Nat → Int) : Nat → Nat → Int
  | 0 => fun _ => 0
  | k + 1 => fun j => if j = tgt k then c (src k) else laidC tgt src c k j
def srcN (W k : Nat) : Nat := (k / W) * 10 + k % W
theorem kAt {W j k : Nat} (hj : j < W) : (k * W + j) % W = j ∧ (k * W + j) / W = k := by
  rw [show k * W + j = j + W * k by rw [Nat.mul_comm]; omega, Nat.add_mul_mod_self_left, Nat.mod_eq_of_lt hj, Nat.add_mul_div_left _ _ (by omega), Nat.div_eq_of_lt hj, Nat.zero_add]
  exact ⟨rfl, rfl⟩
/-- A slice of cells read at its block. -/
theorem ownAt {w : World} {B W n : Nat} {v : Value} (h : w.ownsRow B 44 2 v n (cellsV W n)) (hn : 0 < n) : ∃ g cap cur, v = .slice (some ⟨g, 0, none⟩) n cap ∧ B ≤ g ∧ w.heap[g]? = some (.cells cur 44 (0, 0)) ∧ ∀ k, k < n → cur[k * 2]? = some (.int .i8 ((k % W : Nat) : Int)) ∧ cur[k * 2 + 1]? = some (.int .i8 ((k / W : Nat) : Int)) := by
  rcases h.2 with ⟨_, h0⟩ | ⟨g, cap, cur, hv, hB, hg, _, _, _, ht⟩
  · omega
  · refine ⟨g, cap, cur, hv, hB, hg, fun k hk => ?_⟩
    have e : ∀ i, i < 2 → cur[k * 2 + i]? = (cellV W k)[i]? := fun i hi => by
      rw [← cellsV_get W n k i hk hi, ← ht, List.getElem?_take, if_pos (by omega)]; simp
    exact ⟨(e 0 (by omega)).trans rfl, (e 1 (by omega)).trans rfl⟩

theorem cellRound {W H k : Nat} (hk : k < W * H) : ∃ x y : Nat, k % W = x ∧ k / W = y ∧ x < W ∧ y < H :=
  ⟨k % W, k / W, rfl, rfl, Nat.mod_lt _ (Nat.pos_of_ne_zero (fun e => by subst e; simp at hk)), Nat.div_lt_of_lt_mul hk⟩

end Go.Proofs.Ytefdnnjnmgnnpaa.L
