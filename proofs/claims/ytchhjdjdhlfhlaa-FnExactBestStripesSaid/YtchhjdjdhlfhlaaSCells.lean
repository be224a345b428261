/- Walks: the cells of a kind; the reference's. -/
import Derived.Test.YtchhjdjdhlfhlaaKeep
import Derived.Maps.AppendAt
namespace Go.Proofs.Ytchhjdjdhlfhlaa.L
set_option linter.unusedSimpArgs false
set_option linter.unusedVariables false
open Go.RowKit Go.Proofs.Ytchhjdjdhlfhlaa.B

/-- The kept cells, laid. -/
def keptV (W : Nat) (p : Nat → Bool) (n : Nat) : List Value := (keepL p n).flatMap (cellV W)
theorem keptV_yes {W : Nat} {p : Nat → Bool} {n : Nat} (h : p n = true) : keptV W p (n + 1) = keptV W p n ++ cellV W n ∧ (keepL p (n + 1)).length = (keepL p n).length + 1 := by
  unfold keptV
  rw [keepL_succ, h]
  simp
theorem keptV_no {W : Nat} {p : Nat → Bool} {n : Nat} (h : p n = false) : keptV W p (n + 1) = keptV W p n ∧ (keepL p (n + 1)).length = (keepL p n).length := by
  unfold keptV
  rw [keepL_succ, h]
  simp
/-- The state at the head of a round. -/
def SCellR (L : Lw) (W gl g : Nat) (t : TypeId) (p : Nat → Bool) (cur : Array Value) (w wr : World) (v : Value) (k : Nat) : Prop :=
  wr.ownsRow w.heap.size 44 2 v (keepL p k).length (keptV W p k) ∧ Below w.heap.size w wr ∧ wr.heap[gl]? = some (.cells L.cells t (0, 0)) ∧ wr.heap[g]? = some (.cells cur 44 (0, 0)) ∧ v.ownBlock ≠ some g ∧ gl < w.heap.size
theorem SCellR.below {L : Lw} {W gl g : Nat} {t : TypeId} {p : Nat → Bool} {cur : Array Value} {w wr w1 : World} {v : Value} {k : Nat} (h : SCellR L W gl g t p cur w wr v k) (hb : Below wr.heap.size wr w1) : SCellR L W gl g t p cur w w1 v k := by
  obtain ⟨h1, h2, h3, h4, h5, h6⟩ := h
  refine ⟨⟨h1.1, ?_⟩, belW h2 hb, blkB hb h3 (blkLt h3), blkB hb h4 (blkLt h4), h5, h6⟩
  rcases h1.2 with hn | ⟨b, cap, cu, hv, hB, hg, rest⟩
  · exact .inl hn
  · exact .inr ⟨b, cap, cu, hv, hB, blkB hb hg (blkLt hg), rest⟩
theorem SCellR.put {L : Lw} {W gl g : Nat} {t : TypeId} {p : Nat → Bool} {cur : Array Value} {w wr w1 : World} {v v1 : Value} {k : Nat} {o : Obj} {xs : List Value} (h : SCellR L W gl g t p cur w wr v k) (hp : p k = true) (hx : cellV W k = xs) (ho : w1.ownsRow w.heap.size 44 2 v1 ((keepL p k).length + 1) (keptV W p k ++ xs)) (hg : (wr.alloc o).grownBy w1 v.ownBlock) (hat : v1.ownBlock = v.ownBlock ∨ v1.ownBlock = some (wr.alloc o).heap.size) : SCellR L W gl g t p cur w w1 v1 (k + 1) := by
  obtain ⟨h1, h2, h3, h4, h5, h6⟩ := h
  subst hx
  refine ⟨?_, ?_, ?_, ?_, ?_, h6⟩
  · rw [(keptV_yes hp).1, (keptV_yes (W := W) hp).2]; exact ho
  · refine Below.trans (belA h2) ⟨hg.os, hg.tape, hg.output, hg.size, fun i hi => ?_⟩
    exact hg.block i (Nat.lt_of_lt_of_le hi (belA h2 (o := o)).size) (ownB h1 hi)
  · exact (hg.block gl (Nat.lt_trans (blkLt h3) (by simp)) (ownB h1 h6)).trans (blkA h3)
  · exact (hg.block g (Nat.lt_trans (blkLt h4) (by simp)) (fun e => h5 e.symm)).trans (blkA h4)
  · rcases hat with e | e
    · rw [e]; exact h5
    · rw [e]
      intro e2
      injection e2 with e2
      have := blkLt h4
      simp at e2
      omega
def KeptOut (w : World) (W : Nat) (p : Nat → Bool) (n : Nat) (e : Ending) (w' : World) : Prop := ∃ v, e = .returned v ∧ w'.ownsRow w.heap.size 44 2 v (keepL p n).length (keptV W p n) ∧ Below w.heap.size w w'

set_option maxRecDepth 100000 in
set_option maxHeartbeats 4000000 in
theorem sCells (L : Lw) (hL : Lw.Ok L) (W H : Nat) (hw : L.wide = W) (hh : L.high = H) (hW1 : 1 ≤ W) (hW : W ≤ 10) (hH1 : 1 ≤ H) (hH : H ≤ 10) (k0 : Int) (gl : Nat) (t : TypeId) (w : World) (hl : w.heap[gl]? = some (.cells L.cells t (0, 0))) :
    Calls Try.prog 58 #[.pointer (some ⟨gl, 0, none⟩), .int .i64 k0] w (KeptOut w W (ofB L W k0) (W * H)) := by
  obtain ⟨i0, hi, hz0, hz1, hz2⟩ := info_parts infoCell
  obtain ⟨N, hN⟩ : ∃ N, N = W * H := ⟨_, rfl⟩
  have hWH : W * H ≤ 10 * 10 := Nat.mul_le_mul hW hH
  have hWH1 : 1 * 1 ≤ W * H := Nat.mul_le_mul hW1 hH1
  have HA := fun (g : Nat) (t : TypeId) (w : World) h => sAll L W H hw hh hW hH g t w h
  rw [← hN] at HA hWH hWH1 ⊢
  have HA := Lib.hid HA
  have HN := Lib.hid hN
  have HL := Lib.hid hL
  have HLL := Lib.hid hl
  have ll := blkLt hl
  clear hL hN hl hw hh
  go_enter Try.func58, Try.ntmps58
  go_wp2_with fail
  refine (HA.out gl t _ (blkA HLL.out)).mono ?_
  rintro e w3 ⟨u, rfl, ho, hb3⟩
  obtain ⟨g, cap, cur, rfl, hg1, hg2, hg3⟩ := ownAt ho (by omega)
  have hgs : w.heap.size < g := by have : w.heap.size + 1 ≤ g := by simpa using hg1
                                   omega
  have hR0 : SCellR L W gl g t (ofB L W k0) cur w w3 (.slice (some ⟨w.heap.size, 0, none⟩) 0 0) 0 := by
    refine ⟨?_, belW (belA (Below.refl _ _)) hb3, blkB hb3 (blkA HLL.out) (by simp; omega), hg2, by simp [Value.ownBlock]; omega, ll⟩
    have h := World.ownsRow_made (base := w.heap.size) (e := 44) (size := 2) w #[] 0 (by simp) (by simp [maxLen]) (by simp)
    refine ⟨rfl, .inr ⟨w.heap.size, 0, #[], rfl, Nat.le_refl _, blkB hb3 (blkN rfl) (by simp), Nat.le_refl _, by simp [maxLen], rfl, rfl⟩⟩
  have HR0 := Lib.hid hR0
  have HG3 := Lib.hid hg3
  clear hR0 hg3 hg1 hg2 ho hb3
  go_wp2_with fail
  go_loopw [5, 7] (fun v i wr => ∃ k : Nat, k ≤ N ∧ i = .int .i64 k ∧ SCellR L W gl g t (ofB L W k0) cur w wr v k) (fun _ i _ => N - (intOf i).toNat)
  case atStart => exact ⟨0, by omega, rfl, HR0.out⟩
  case round =>
    obtain ⟨k, hk, rfl, hr⟩ := hrel
    by_cases hlt : k < N
    · have hd : decide ((k : Int) < N) = true := by simp; omega
      have hdn : decide (k < N) = true := by simp; omega
      obtain ⟨x, y, hx, hy, hx1, hy1⟩ := cellRound (W := W) (H := H) (k := k) (by rw [← HN.out]; exact hlt)
      obtain ⟨q0, q1⟩ := HG3.out k hlt
      rw [hx] at q0
      rw [hy] at q1
      have r0 := (blkC hr.2.2.2.1 (k * 2)).trans q0
      have r1 := (blkC hr.2.2.2.1 (k * 2 + 1)).trans q1
      have HK := Lib.hid (fun (w : World) h => sAt L HL.out x y (by omega) (by omega) gl t w h)
      have hcv : cellV W k = [.int .i8 (x : Int), .int .i8 (y : Int)] := by unfold cellV; rw [hx, hy]
      have HCV := Lib.hid hcv
      have hlen := keepL_le (ofB L W k0) k
      cases hp : ofB L W k0 k with
      | true =>
        have hp2 : (L.c (y * 10 + x) == k0) = true := by rw [← hp]; unfold ofB srcN; rw [hx, hy]
        have HP := Lib.hid hp
        obtain ⟨n0, hn0⟩ : ∃ n0, n0 = L.c (y * 10 + x) := ⟨_, rfl⟩
        rw [← hn0] at hp2 HK
        clear hx hy hp hcv q0 q1 hn0
        go_wp2_with (first | (go_at_call 49; refine (HK.out _ hr.2.2.1).mono ?_; rintro e w4 ⟨rfl, hb4⟩; have hr4 := hr.below hb4; have s0 := (blkC hr4.2.2.2.1 (k * 2)).trans ((blkC hr.2.2.2.1 (k * 2)).symm.trans r0); have s1 := (blkC hr4.2.2.2.1 (k * 2 + 1)).trans ((blkC hr.2.2.2.1 (k * 2 + 1)).symm.trans r1)) | (at_builtin; refine wpList_append_own_at _ rfl _ _ 78 rfl w.heap.size 44 i0 (.agg #[.int .i8 0, .int .i8 0]) 2 2 Try.underlying78 hi hz0 hz1 hz2 rfl (by decide) _ _ _ rfl (hr4.1.alloc _) ⟨_, 0, none⟩ 1 1 [.int .i8 x, .int .i8 y] rfl rfl twoCells twoOne (by simp only [maxLen]; omega) (by omega) (by have := hr4.2.1.size; simp; omega) ?_; intro v1 w5 hown1 hgrow1 _ hat1))
        refine ⟨?_, by simp [intOf]; omega⟩
        have hr5 := hr4.put HP.out HCV.out hown1 hgrow1 hat1
        first | exact ⟨k + 1, by omega, by go_num, hr5⟩ | ((repeat (apply Exists.intro)); exact ⟨⟨k + 1, by omega, by go_num, hr5⟩, rfl⟩)
      | false =>
        have hp2 : (L.c (y * 10 + x) == k0) = false := by rw [← hp]; unfold ofB srcN; rw [hx, hy]
        have HP := Lib.hid hp
        obtain ⟨n0, hn0⟩ : ∃ n0, n0 = L.c (y * 10 + x) := ⟨_, rfl⟩
        rw [← hn0] at hp2 HK
        clear hx hy hp hcv q0 q1 hn0
        go_wp2_with (go_at_call 49; refine (HK.out _ hr.2.2.1).mono ?_; rintro e w4 ⟨rfl, hb4⟩; have hr4 := hr.below hb4)
        refine ⟨?_, by simp [intOf]; omega⟩
        have hr5 : SCellR L W gl g t (ofB L W k0) cur w w4 u5 (k + 1) := ⟨by rw [(keptV_no HP.out).1, (keptV_no (W := W) HP.out).2]; exact hr4.1, hr4.2⟩
        first | exact ⟨k + 1, by omega, by go_num, hr5⟩ | ((repeat (apply Exists.intro)); exact ⟨⟨k + 1, by omega, by go_num, hr5⟩, rfl⟩)
    · have hd : decide ((k : Int) < N) = false := by simp; omega
      have hdn : decide (k < N) = false := by simp; omega
      have e : k = N := by omega
      have E := Lib.hid e
      clear e
      go_wp2
      go_ret
      rw [← E.out]
      exact ⟨_, rfl, hr.1, hr.2.1⟩
end Go.Proofs.Ytchhjdjdhlfhlaa.L
