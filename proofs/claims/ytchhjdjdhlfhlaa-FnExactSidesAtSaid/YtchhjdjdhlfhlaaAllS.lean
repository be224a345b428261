/- Walks: all cells of a lawn, as the reference lays them; the code of a lawn alone. -/
import Derived.Test.YtchhjdjdhlfhlaaAll
namespace Go.Proofs.Ytchhjdjdhlfhlaa.L
set_option linter.unusedSimpArgs false
set_option linter.unusedVariables false
open Go.RowKit Go.Proofs.Ytchhjdjdhlfhlaa.B

set_option maxRecDepth 100000 in
set_option maxHeartbeats 2000000 in
theorem sAll (L : Lw) (W H : Nat) (hw : L.wide = W) (hh : L.high = H) (hW : W ≤ 10) (hH : H ≤ 10) (g : Nat) (t : TypeId) (w : World) (hg : w.heap[g]? = some (.cells L.cells t (0, 0))) :
    Calls Try.prog 63 #[.pointer (some ⟨g, 0, none⟩)] w (AllOut w W (W * H)) := by
  obtain ⟨i0, hi, hz0, hz1, hz2⟩ := info_parts infoCell
  have g0 := L.get0
  have g1 := L.get1
  rw [hw] at g0
  rw [hh] at g1
  have hlt := blkLt hg
  clear hw hh
  go_enter Try.func63, Try.ntmps63
  go_wp2
  go_loopw [3, 4] (fun v y wr => ∃ k : Nat, k ≤ H ∧ y = .int .i8 k ∧ AllR L g w.heap.size W t w wr v (k * W)) (fun _ y _ => H - (intOf y).toNat)
  case atStart =>
    refine ⟨0, by omega, rfl, ?_⟩
    rw [Nat.zero_mul]
    refine ⟨?_, belA (Below.refl _ _), blkA hg, hlt, Nat.le_refl _⟩
    have := World.ownsRow_made (base := w.heap.size) (e := 44) (size := 2) w #[] 0 (by simp) (by simp [maxLen]) (by simp)
    rw [show cellsV W 0 = [] from rfl]
    simpa using this
  case round =>
    obtain ⟨k, hk, rfl, hr⟩ := hrel
    have hc1 : wr.cell? ⟨g, 1, none⟩ = some (.int .i8 H) := (blkC hr.2.2.1 1).trans g1
    by_cases hlt : k < H
    · have hd : decide ((k : Int) < H) = true := by simp; omega
      go_wp2
      clear hc1
      go_loopw [3, 5] (fun v x wr => ∃ j : Nat, j ≤ W ∧ x = .int .i8 j ∧ AllR L g w.heap.size W t w wr v (k * W + j)) (fun _ x _ => W - (intOf x).toNat)
      case atStart => exact ⟨0, by omega, rfl, hr⟩
      case round =>
        obtain ⟨j, hj, rfl, hr⟩ := hrel
        have hc0 : wr.cell? ⟨g, 0, none⟩ = some (.int .i8 W) := (blkC hr.2.2.1 0).trans g0
        by_cases hjt : j < W
        · have hd2 : decide ((j : Int) < W) = true := by simp; omega
          have hown := hr.1
          have hkw : k * W ≤ 10 * 10 := Nat.mul_le_mul (by omega) hW
          go_wp2_with (at_builtin; refine wpList_append_own _ rfl _ _ 78 rfl w.heap.size 44 i0 (.agg #[.int .i8 0, .int .i8 0]) 2 2 Try.underlying78 hi hz0 hz1 hz2 rfl (by decide) _ _ _ rfl (hown.alloc _) ⟨_, 0, none⟩ 1 1 [.int .i8 j, .int .i8 k] rfl rfl twoCells twoOne (by simp only [maxLen]; omega) (by omega) (by have := hr.2.1.size; simp; omega) ?_; intro v1 w1 hown1 hgrow1 _)
          refine ⟨?_, by simp [intOf]; omega⟩
          first | exact ⟨j + 1, by omega, by go_num, hr.next hown1 (cellV_at hjt).symm hgrow1⟩ | ((repeat (apply Exists.intro)); exact ⟨⟨j + 1, by omega, by go_num, hr.next hown1 (cellV_at hjt).symm hgrow1⟩, rfl⟩)
        · have hd2 : decide ((j : Int) < W) = false := by simp; omega
          go_wp2
          refine ⟨?_, by simp [intOf]; omega⟩
          have hr2 : AllR L g w.heap.size W t w wr u3 ((k + 1) * W) := by rw [show (k + 1) * W = k * W + j by rw [Nat.add_mul]; omega]; exact hr
          first | exact ⟨k + 1, by omega, by go_num, hr2⟩ | ((repeat (apply Exists.intro)); exact ⟨⟨k + 1, by omega, by go_num, hr2⟩, rfl⟩)
    · have hd : decide ((k : Int) < H) = false := by simp; omega
      go_wp2
      go_ret
      rw [show W * H = k * W by rw [Nat.mul_comm, show H = k by omega]]
      exact hr.out

set_option maxRecDepth 100000 in
set_option maxHeartbeats 1000000 in
theorem index0 (gl : Nat) (w : World) :
    Calls Try.prog 62 #[.slice none 0 0, .func (.func 60) #[] #[.pointer (some ⟨gl, 0, none⟩)]] w fun e w' => e = .returned (.int .i64 (-1)) ∧ w = w' := by
  go_enter Try.func62, Try.ntmps62
  go_wp2
  refine wp_loop_rounds 1 ?_
  rw [rounds_succ]
  go_wp2
  go_ret
  exact ⟨rfl, rfl⟩
set_option maxHeartbeats 1000000 in
theorem contains0 (gl : Nat) (w : World) :
    Calls Try.prog 52 #[.slice none 0 0, .func (.func 60) #[] #[.pointer (some ⟨gl, 0, none⟩)]] w fun e w' => e = .returned (.bool false) ∧ w = w' := by
  go_enter Try.func52, Try.ntmps52
  go_wp2_with (first | (go_at_call 62; refine (index0 gl _).mono ?_; rintro e w1 ⟨rfl, rfl⟩))
  go_ret
  exact ⟨rfl, rfl⟩
set_option maxRecDepth 100000 in
set_option maxHeartbeats 1000000 in
theorem cells0 (L : Lw) (hL : Lw.Ok L) (w : World) :
    Calls Try.prog 39 #[.agg L.cells, .slice none 0 0] w fun e w' => e = .returned (.int .i64 (codeB L true)) ∧ Below w.heap.size w w' := by
  have hv := valid L hL
  rcases twoways (validB L) with b | b
  · rw [b] at hv
    have HV := Lib.hid hv
    clear hv
    go_enter Try.func39, Try.ntmps39
    go_wp2_with (first | (refine loadRow 6 rfl rfl rfl rfl Try.underlying30 rfl (blkN rfl) (by rw [Lw.size]; exact size28) ?_) | (go_at_call 26; refine (HV.out _).mono ?_; rintro e w1 ⟨rfl, hb⟩))
    go_ret
    exact ⟨by rw [codeB, b]; rfl, belW (belA (Below.refl _ _)) hb⟩
  · rw [b] at hv
    have HV := Lib.hid hv
    clear hv
    go_enter Try.func39, Try.ntmps39
    go_wp2_with (first | (refine loadRow 6 rfl rfl rfl rfl Try.underlying30 rfl (blkN rfl) (by rw [Lw.size]; exact size28) ?_) | (go_at_call 26; refine (HV.out _).mono ?_; rintro e w1 ⟨rfl, hb⟩) | (go_at_call 52; refine (contains0 w.heap.size _).mono ?_; rintro e w2 ⟨rfl, rfl⟩))
    go_ret
    exact ⟨by rw [codeB, b]; rfl, belW (belA (Below.refl _ _)) hb⟩
/-- The sides of a valid lawn. -/
theorem sides {L : Lw} (h : validB L = true) : ∃ W H : Nat, L.wide = W ∧ L.high = H ∧ 1 ≤ W ∧ W ≤ 10 ∧ 1 ≤ H ∧ H ≤ 10 := by
  simp only [validB, sideB, Bool.and_eq_true, decide_eq_true_eq] at h
  exact ⟨L.wide.toNat, L.high.toNat, by omega, by omega, by omega, by omega, by omega, by omega⟩
end Go.Proofs.Ytchhjdjdhlfhlaa.L
