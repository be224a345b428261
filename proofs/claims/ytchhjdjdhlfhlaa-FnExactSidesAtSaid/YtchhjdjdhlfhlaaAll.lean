/- Walks: all cells of a lawn, in order; the program's and the reference's. -/
import Derived.Test.YtchhjdjdhlfhlaaKind
import Derived.OwnWalk
namespace Go.Proofs.Ytchhjdjdhlfhlaa.L
set_option linter.unusedSimpArgs false
set_option linter.unusedVariables false
open Go.RowKit Go.Proofs.Ytchhjdjdhlfhlaa.B

/-- The k-th of the cells in rows of W. -/
def cellV (W k : Nat) : List Value := [.int .i8 ((k % W : Nat) : Int), .int .i8 ((k / W : Nat) : Int)]
/-- The first n of them. -/
def cellsV (W n : Nat) : List Value := (List.range n).flatMap (cellV W)
theorem cellsV_succ (W n : Nat) : cellsV W (n + 1) = cellsV W n ++ cellV W n := by simp [cellsV, List.range_succ, List.flatMap_append]
theorem cellsV_len (W n : Nat) : (cellsV W n).length = n * 2 := by
  induction n with
  | zero => rfl
  | succ n ih => rw [cellsV_succ, List.length_append, ih]; simp [cellV]; omega
theorem cellsV_get (W n k i : Nat) (hk : k < n) (hi : i < 2) : (cellsV W n)[k * 2 + i]? = (cellV W k)[i]? := by
  induction n with
  | zero => omega
  | succ n ih =>
    rw [cellsV_succ]
    by_cases e : k = n
    · subst e
      rw [List.getElem?_append_right (by rw [cellsV_len]; omega), cellsV_len, show k * 2 + i - k * 2 = i by omega]
    · rw [List.getElem?_append_left (by rw [cellsV_len]; omega), ih (by omega)]
theorem cellV_at {W k j : Nat} (hj : j < W) : cellV W (k * W + j) = [.int .i8 (j : Int), .int .i8 (k : Int)] := by
  unfold cellV
  rw [show k * W + j = j + W * k by rw [Nat.mul_comm]; omega, Nat.add_mul_mod_self_left, Nat.mod_eq_of_lt hj, Nat.add_mul_div_left _ _ (by omega), Nat.div_eq_of_lt hj, Nat.zero_add]
theorem cellV_one (W k : Nat) : ∀ u ∈ cellV W k, u.oneCell' = true := by
  intro u hu
  simp only [cellV, List.mem_cons, List.not_mem_nil, or_false] at hu
  rcases hu with rfl | rfl <;> rfl
theorem infoCell : (Try.prog.info? 44).map (fun i => (i.zero, i.size, i.bytes)) = some (some (.agg #[.int .i8 0, .int .i8 0]), 2, 2) := by kernel_rfl
/-- So many cells have been laid; the lawn stands. -/
def AllR (L : Lw) (g B W : Nat) (t : TypeId) (w wr : World) (v : Value) (n : Nat) : Prop :=
  wr.ownsRow B 44 2 v n (cellsV W n) ∧ Below w.heap.size w wr ∧ wr.heap[g]? = some (.cells L.cells t (0, 0)) ∧ g < B ∧ w.heap.size ≤ B
theorem ownB {w : World} {base : Nat} {e : TypeId} {size : Nat} {v : Value} {n : Nat} {xs : List Value} (h : w.ownsRow base e size v n xs) {g : Nat} (hg : g < base) : some g ≠ v.ownBlock := fun e => by
  have := h.lt g e.symm
  omega
theorem AllR.next {L : Lw} {g B W : Nat} {t : TypeId} {w wr w1 : World} {v v' : Value} {n : Nat} {o : Obj} {xs : List Value} (h : AllR L g B W t w wr v n) (ho : w1.ownsRow B 44 2 v' (n + 1) (cellsV W n ++ xs)) (hx : xs = cellV W n) (hg : (wr.alloc o).grownBy w1 v.ownBlock) : AllR L g B W t w w1 v' (n + 1) := by
  obtain ⟨h1, h2, h3, h4, h5⟩ := h
  subst hx
  refine ⟨by rw [cellsV_succ]; exact ho, ?_, ?_, h4, h5⟩
  · refine Below.trans (belA h2) ⟨hg.os, hg.tape, hg.output, hg.size, fun i hi => ?_⟩
    exact hg.block i (Nat.lt_of_lt_of_le hi (belA h2 (o := o)).size) (ownB h1 (by omega))
  · exact (hg.block g (Nat.lt_trans (blkLt h3) (by simp)) (ownB h1 h4)).trans (blkA h3)
/-- What comes back: a slice that owns the cells. -/
def AllOut (w : World) (W n : Nat) (e : Ending) (w' : World) : Prop := ∃ v, e = .returned v ∧ w'.ownsRow w.heap.size 44 2 v n (cellsV W n) ∧ Below w.heap.size w w'
theorem AllR.out {L : Lw} {g B W : Nat} {t : TypeId} {w wr : World} {v : Value} {n : Nat} (h : AllR L g B W t w wr v n) : AllOut w W n (.returned v) wr := by
  refine ⟨v, rfl, ⟨h.1.1, ?_⟩, h.2.1⟩
  rcases h.1.2 with h1 | ⟨g', cap, cur, h1, h2, h3⟩
  · exact .inl h1
  · exact .inr ⟨g', cap, cur, h1, Nat.le_trans h.2.2.2.2 h2, h3⟩

theorem twoCells {w : World} {a b : Value} {t : TypeId} : ∀ (j : Nat) (u : Value), [a, b][j]? = some u → (w.alloc (.cells #[a, b] t)).cell? ((⟨w.heap.size, 0, none⟩ : Addr).add j) = some u := by
  intro j u h
  match j, h with
  | 0, h => simp at h; subst h; exact (blkC (blkN rfl) 0).trans rfl
  | 1, h => simp at h; subst h; exact (blkC (blkN rfl) 1).trans rfl
  | j + 2, h => simp at h
theorem twoOne {k1 k2 : IntKind} {a b : Int} : ∀ u ∈ [Value.int k1 a, Value.int k2 b], u.oneCell' = true := by
  intro u hu
  simp only [List.mem_cons, List.not_mem_nil, or_false] at hu
  rcases hu with rfl | rfl <;> rfl

set_option maxRecDepth 100000 in
set_option maxHeartbeats 2000000 in
theorem all (L : Lw) (W H : Nat) (hw : L.wide = W) (hh : L.high = H) (hW : W ≤ 10) (hH : H ≤ 10) (w : World) :
    Calls Try.prog 56 #[.agg L.cells] w (AllOut w W (W * H)) := by
  obtain ⟨i0, hi, hz0, hz1, hz2⟩ := info_parts infoCell
  have g0 := L.get0
  have g1 := L.get1
  rw [hw] at g0
  rw [hh] at g1
  clear hw hh
  go_enter Try.func56, Try.ntmps56
  go_wp2
  go_loopw [3, 9] (fun v y wr => ∃ k : Nat, k ≤ H ∧ y = .int .i8 k ∧ AllR L w.heap.size (w.heap.size + 1) W 30 w wr v (k * W)) (fun _ y _ => H - (intOf y).toNat)
  case atStart =>
    refine ⟨0, by omega, rfl, ?_⟩
    rw [Nat.zero_mul]
    refine ⟨?_, belA (belA (Below.refl _ _)), blkA (blkN rfl), by omega, by omega⟩
    have := World.ownsRow_made (base := w.heap.size + 1) (e := 44) (size := 2) (w.alloc (.cells L.cells 30)) #[] 0 (by simp) (by simp [maxLen]) (by simp)
    rw [show cellsV W 0 = [] from rfl]
    simpa using this
  case round =>
    obtain ⟨k, hk, rfl, hr⟩ := hrel
    by_cases hlt : k < H
    · have hd : decide ((k : Int) < H) = true := by simp; omega
      have hc0 : wr.cell? ⟨w.heap.size, 0, none⟩ = some (.int .i8 W) := (blkC hr.2.2.1 0).trans g0
      go_wp2
      clear hc0
      go_loopw [3, 14] (fun v x wr => ∃ j : Nat, j ≤ W ∧ x = .int .i8 j ∧ AllR L w.heap.size (w.heap.size + 1) W 30 w wr v (k * W + j)) (fun _ x _ => W - (intOf x).toNat)
      case atStart => exact ⟨0, by omega, rfl, hr⟩
      case round =>
        obtain ⟨j, hj, rfl, hr⟩ := hrel
        by_cases hjt : j < W
        · have hd2 : decide ((j : Int) < W) = true := by simp; omega
          have hown := hr.1
          have hkw : k * W ≤ 10 * 10 := Nat.mul_le_mul (by omega) hW
          go_wp2_with (at_builtin; refine wpList_append_own _ rfl _ _ 78 rfl (w.heap.size + 1) 44 i0 (.agg #[.int .i8 0, .int .i8 0]) 2 2 Try.underlying78 hi hz0 hz1 hz2 rfl (by decide) _ _ _ rfl (hown.alloc _) ⟨_, 0, none⟩ 1 1 [.int .i8 j, .int .i8 k] rfl rfl twoCells twoOne (by simp only [maxLen]; omega) (by omega) (by have := hr.2.1.size; simp; have := blkLt hr.2.2.1; omega) ?_; intro v1 w1 hown1 hgrow1 _)
          exact ⟨⟨j + 1, by omega, by go_num, hr.next hown1 (cellV_at hjt).symm hgrow1⟩, by simp [intOf]; omega⟩
        · have hd2 : decide ((j : Int) < W) = false := by simp; omega
          go_wp2
          exact ⟨⟨k + 1, by omega, by go_num, by rw [show (k + 1) * W = k * W + j by rw [Nat.add_mul]; omega]; exact hr⟩, by simp [intOf]; omega⟩
    · have hd : decide ((k : Int) < H) = false := by simp; omega
      go_wp2
      go_ret
      rw [show W * H = k * W by rw [Nat.mul_comm, show H = k by omega]]
      exact hr.out
end Go.Proofs.Ytchhjdjdhlfhlaa.L
