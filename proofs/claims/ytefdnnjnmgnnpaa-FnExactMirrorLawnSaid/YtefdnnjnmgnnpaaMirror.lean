/- Walks: a lawn mirrored; the program's. -/
import Derived.Test.YtefdnnjnmgnnpaaTurn
import Derived.Deep.DeepCutAuto
namespace Go.Proofs.Ytefdnnjnmgnnpaa.L
set_option linter.unusedSimpArgs false
set_option linter.unusedVariables false
open Go.RowKit Go.Proofs.Ytefdnnjnmgnnpaa.B

set_option maxRecDepth 100000 in
set_option maxHeartbeats 4000000 in
theorem mirroredOk (L : Lw) (hL : Lw.Ok L) (W H : Nat) (hw : L.wide = W) (hh : L.high = H) (hW1 : 1 ≤ W) (hW : W ≤ 10) (hH1 : 1 ≤ H) (hH : H ≤ 10) (w : World) :
    Calls Try.prog 27 #[.agg L.cells] w fun e w' => e = .returned (.agg (mirL L W H (W * H)).cells) ∧ Below w.heap.size w w' := by
  obtain ⟨hz, hz2⟩ := zero_of_info zeroLw
  have hz3 := Lw.ne ⟨0, 0, fun _ => 0⟩
  have hz4 := Lw.size ⟨0, 0, fun _ => 0⟩
  have hz5 := Lw.size ⟨W, 0, fun _ => 0⟩
  have hWH : W * H ≤ 10 * 10 := Nat.mul_le_mul hW hH
  have hWH1 : 1 * 1 ≤ W * H := Nat.mul_le_mul hW1 hH1
  obtain ⟨N, hN⟩ : ∃ N, N = W * H := ⟨_, rfl⟩
  have HA := fun (w : World) => all L W H hw hh hW hH w
  rw [← hN] at HA hWH hWH1 ⊢
  have HA := Lib.hid HA
  have HN := Lib.hid hN
  have HL := Lib.hid hL
  have g0 := L.get0
  have g1 := L.get1
  rw [hw] at g0
  rw [hh] at g1
  have s0 := Lw.set0 ⟨0, 0, fun _ => 0⟩ W
  have s1 := Lw.set1 ⟨W, 0, fun _ => 0⟩ H
  clear hw hh hL hN
  go_enter Try.func27, Try.ntmps27
  have h1 : ((w.alloc (.cells L.cells 28)).alloc (.cells (Lw.cells ⟨0, 0, fun _ => 0⟩) 28)).heap[w.heap.size]? = some (.cells L.cells 28 (0, 0)) := blkA (blkN rfl)
  have h2 : ((w.alloc (.cells L.cells 28)).alloc (.cells (Lw.cells ⟨0, 0, fun _ => 0⟩) 28)).heap[w.heap.size + 1]? = some (.cells (Lw.cells ⟨0, 0, fun _ => 0⟩) 28 (0, 0)) := blkN (by simp)
  obtain ⟨w1, hw1⟩ : ∃ w1, w1 = (w.alloc (.cells L.cells 28)).alloc (.cells (Lw.cells ⟨0, 0, fun _ => 0⟩) 28) := ⟨_, rfl⟩
  have hB1 : Below w.heap.size w w1 := by rw [hw1]; exact belA (belA (Below.refl _ _))
  rw [← hw1] at h1 h2
  have c0 : w1.cell? ⟨w.heap.size, 0, none⟩ = some (.int .i8 W) := (blkC h1 0).trans g0
  have c1 : w1.cell? ⟨w.heap.size, 1, none⟩ = some (.int .i8 H) := (blkC h1 1).trans g1
  go_upto_region 1 with fail
  rw [← hw1]
  clear hw1
  go_wp2_with (first | (refine loadRow 11 rfl rfl rfl rfl Try.underlying28 rfl k1 (by rw [Lw.size]; exact size28) ?_) | (refine storeRow rfl rfl rfl rfl rfl (blkN rfl) (by rw [Lw.size]; exact size28) (by simp only [Lw.size]) (Lw.one _) ?_; intro w2 j1 j2 j3 j4; have n1 := blkLt h1; have n2 := blkLt h2; have hB2 := belT (belA hB1 (o := .cells (Lw.cells ⟨0, 0, fun _ => 0⟩) 28)) j3 hB1.size; have k1 := (j2 _ (Nat.ne_of_lt n1)).trans (blkA h1); have k2 := (j2 _ (Nat.ne_of_lt n2)).trans (blkA h2)) | (go_at_call 25; refine (HA.out _).mono ?_; rintro e w3 ⟨v, rfl, ho, hb3⟩; obtain ⟨g, cap, cur, rfl, hg1, hg2, hg3⟩ := ownAt ho (by omega)))
  have hR0 : TurnR L (mirL L W H) w1.heap.size g cur w w3 0 := ⟨belW hB2 hb3, blkB hb3 k1 (blkLt k1), blkB hb3 k2 (blkLt k2), blkB hb3 j1 (blkLt j1), hg2, n2, by have := blkLt j1; omega, by have := blkLt j1; omega⟩
  obtain ⟨o, ho'⟩ : ∃ o, o = w1.heap.size := ⟨_, rfl⟩
  rw [← ho'] at hR0 ⊢
  have HR0 := Lib.hid hR0
  have HG3 := Lib.hid hg3
  clear hR0 hg3 ho' hg1 hg2 ho hb3 k1 k2 hB2 n1 n2 j1 j2 j3 j4 c0 c1 h1 h2 hB1 s0 s1 hz3 hz4 hz5
  go_loopw [14] (fun i wr => ∃ k : Nat, k ≤ N ∧ i = .int .i64 k ∧ TurnR L (mirL L W H) o g cur w wr k) (fun i _ => N - (intOf i).toNat)
  case atStart => exact ⟨0, by omega, rfl, HR0.out⟩
  case round =>
    obtain ⟨k, hk, rfl, hr⟩ := hrel
    by_cases hlt : k < N
    · have hd : decide ((k : Int) < N) = true := by simp; omega
      obtain ⟨x, y, hx, hy, hx1, hy1⟩ := cellRound (W := W) (H := H) (k := k) (by rw [← HN.out]; exact hlt)
      obtain ⟨t, ht⟩ : ∃ t, t = W - 1 - x := ⟨_, rfl⟩
      obtain ⟨q0, q1⟩ := HG3.out k hlt
      rw [hx] at q0
      rw [hy] at q1
      have r0 := (blkC hr.2.2.2.2.1 (k * 2)).trans q0
      have r1 := (blkC hr.2.2.2.2.1 (k * 2 + 1)).trans q1
      have HX := Lib.hid hx
      have HY := Lib.hid hy
      have HT := Lib.hid ht
      clear hx hy q0 q1
      go_wp2
      clear r0 r1
      obtain ⟨v, hv⟩ : ∃ v, v = L.c (y * 10 + x) := ⟨_, rfl⟩
      obtain ⟨v0, v1⟩ := HL.out.2.2.2.2 (y * 10 + x) (by omega)
      have A1 : (wr.alloc (.cells #[.int .i8 x, .int .i8 y] 44)).drew.heap[w.heap.size]? = some (.cells L.cells 28 (0, 0)) := blkD (blkA hr.2.1)
      have A2 : (wr.alloc (.cells #[.int .i8 x, .int .i8 y] 44)).drew.heap[wr.heap.size]? = some (.cells #[.int .i8 x, .int .i8 y] 44 (0, 0)) := blkD (blkN rfl)
      have A3 : (wr.alloc (.cells #[.int .i8 x, .int .i8 y] 44)).drew.heap[o]? = some (.cells (mirL L W H k).cells 28 (0, 0)) := blkD (blkA hr.2.2.2.1)
      have e0 := (blkC A1 0).trans g0
      have e1 := (blkC A2 0).trans rfl
      have e2 := (blkC A2 1).trans rfl
      have e3 := (blkC A1 (2 + y * 10 + x)).trans (L.getYX (by omega))
      have e4 := (blkC A3 (2 + y * 10 + t)).trans (Lw.getYX _ (by omega))
      have f4 := blkF A3 (i := 2 + y * 10 + t)
      have o1 : w.heap.size ≠ o := Nat.ne_of_lt (Nat.lt_trans (Nat.lt_succ_self _) hr.2.2.2.2.2.1)
      have o2 : wr.heap.size ≠ o := Nat.ne_of_gt (blkLt hr.2.2.2.1)
      rw [← hv] at e3
      have HV := Lib.hid hv
      have x1 : IntKind.i8.wrap ((W : Int) - 1) = (W : Int) - 1 := i8_in (by omega) (by omega)
      have x2 : IntKind.i8.wrap ((W : Int) - 1 - (x : Int)) = (t : Int) := by rw [i8_in (by omega) (by omega)]; omega
      have b1 : (0 : Int) ≤ x := by omega
      have b2 : (x : Int) < 10 := by omega
      have b3 : (0 : Int) ≤ y := by omega
      have b4 : (y : Int) < 10 := by omega
      have b5 : (0 : Int) ≤ t := by omega
      have b6 : (t : Int) < 10 := by omega
      clear hv v0 v1 A1 A2 A3 ht
      refine wp_region_held_drew (S := fun w' => w'.cell? ⟨w.heap.size, 0, none⟩ = some (.int .i8 W) ∧ w'.cell? ⟨wr.heap.size, 0, none⟩ = some (.int .i8 x) ∧ w'.cell? ⟨wr.heap.size, 1, none⟩ = some (.int .i8 y) ∧ w'.cell? ⟨w.heap.size, 2 + y * 10 + x, none⟩ = some (.int .u8 v)) (by kernel_rfl) ⟨e0, e1, e2, e3⟩ (fun hS => ?_)
      refine takeAny 0 (dN := some 18) (v := ?v1_0_1) rfl rfl (by kernel_rfl) (by kernel_rfl) (by kernel_rfl) (fun _ _ _ h => h) (.inl ⟨rfl, fun w' hSw => ?h1_0_1⟩) hS ?_
      case h1_0_1 => (go_simp; first | done | with_reducible rfl)
      simp only [Act.put, List.setIfInBounds_toArray, List.set_cons_zero, List.set_cons_succ]
      refine takeAny 1 (dN := some 19) (v := ?v1_1_2) rfl rfl (by kernel_rfl) (by kernel_rfl) (by kernel_rfl) (fun _ _ _ h => h) (.inl ⟨rfl, fun w' hSw => ?h1_1_2⟩) hS ?_
      case h1_1_2 => (go_simp; first | done | with_reducible rfl)
      simp only [Act.put, List.setIfInBounds_toArray, List.set_cons_zero, List.set_cons_succ]
      refine takeAny 2 (dN := some 20) (v := ?v1_2_3) rfl rfl (by kernel_rfl) (by kernel_rfl) (by kernel_rfl) (fun _ _ _ h => h) (.inl ⟨rfl, fun w' hSw => ?h1_2_3⟩) hS ?_
      case h1_2_3 => (go_simp; first | done | with_reducible rfl)
      simp only [Act.put, List.setIfInBounds_toArray, List.set_cons_zero, List.set_cons_succ]
      refine takeAny 3 (dN := some 21) (v := ?v1_3_4) rfl rfl (by kernel_rfl) (by kernel_rfl) (by kernel_rfl) (fun _ _ _ h => h) (.inl ⟨rfl, fun w' hSw => ?h1_3_4⟩) hS ?_
      case h1_3_4 => (go_simp; first | done | with_reducible rfl)
      simp only [Act.put, List.setIfInBounds_toArray, List.set_cons_zero, List.set_cons_succ]
      refine takeAny 4 (dN := some 22) (v := ?v1_4_5) rfl rfl (by kernel_rfl) (by kernel_rfl) (by kernel_rfl) (fun _ _ _ h => h) (.inl ⟨rfl, fun w' hSw => ?h1_4_5⟩) hS ?_
      case h1_4_5 => (go_simp; first | done | with_reducible rfl)
      simp only [Act.put, List.setIfInBounds_toArray, List.set_cons_zero, List.set_cons_succ]
      refine takeAny 5 (dN := some 23) (v := ?v1_5_6) rfl rfl (by kernel_rfl) (by kernel_rfl) (by kernel_rfl) (fun _ _ _ h => h) (.inl ⟨rfl, fun w' hSw => ?h1_5_6⟩) hS ?_
      case h1_5_6 => (go_simp; first | done | with_reducible rfl)
      simp only [Act.put, List.setIfInBounds_toArray, List.set_cons_zero, List.set_cons_succ]
      refine takeAny 6 (dN := some 24) (v := ?v1_6_7) rfl rfl (by kernel_rfl) (by kernel_rfl) (by kernel_rfl) (fun _ _ _ h => h) (.inl ⟨rfl, fun w' hSw => ?h1_6_7⟩) hS ?_
      case h1_6_7 => (go_simp; first | done | with_reducible rfl)
      simp only [Act.put, List.setIfInBounds_toArray, List.set_cons_zero, List.set_cons_succ]
      refine takeAny 7 (dN := some 25) (v := ?v1_7_8) rfl rfl (by kernel_rfl) (by kernel_rfl) (by kernel_rfl) (fun _ _ _ h => h) (.inl ⟨rfl, fun w' hSw => ?h1_7_8⟩) hS ?_
      case h1_7_8 => (go_simp; first | done | with_reducible rfl)
      simp only [Act.put, List.setIfInBounds_toArray, List.set_cons_zero, List.set_cons_succ]
      refine takeAny 8 (dN := some 26) (v := ?v1_8_9) rfl rfl (by kernel_rfl) (by kernel_rfl) (by kernel_rfl) (fun _ _ _ h => h) (.inl ⟨rfl, fun w' hSw => ?h1_8_9⟩) hS ?_
      case h1_8_9 => (go_simp; first | done | with_reducible rfl)
      simp only [Act.put, List.setIfInBounds_toArray, List.set_cons_zero, List.set_cons_succ]
      refine takeAny 9 (dN := some 27) (v := ?v1_9_10) rfl rfl (by kernel_rfl) (by kernel_rfl) (by kernel_rfl) (fun _ _ _ h => h) (.inl ⟨rfl, fun w' hSw => ?h1_9_10⟩) hS ?_
      case h1_9_10 => (go_simp; first | done | with_reducible rfl)
      simp only [Act.put, List.setIfInBounds_toArray, List.set_cons_zero, List.set_cons_succ]
      refine takeAny 10 (dN := some 28) (v := ?v1_10_11) rfl rfl (by kernel_rfl) (by kernel_rfl) (by kernel_rfl) (fun _ _ _ h => h) (.inl ⟨rfl, fun w' hSw => ?h1_10_11⟩) hS ?_
      case h1_10_11 => (go_simp; first | done | with_reducible rfl)
      simp only [Act.put, List.setIfInBounds_toArray, List.set_cons_zero, List.set_cons_succ]
      refine takeAny 11 (dN := some 29) (v := ?v1_11_12) rfl rfl (by kernel_rfl) (by kernel_rfl) (by kernel_rfl) (fun _ _ _ h => h) (.inl ⟨rfl, fun w' hSw => ?h1_11_12⟩) hS ?_
      case h1_11_12 => (go_simp; first | done | with_reducible rfl)
      simp only [Act.put, List.setIfInBounds_toArray, List.set_cons_zero, List.set_cons_succ]
      refine takeAny 12 (dN := some 30) (v := ?v1_12_13) rfl rfl (by kernel_rfl) (by kernel_rfl) (by kernel_rfl) (fun _ _ _ h => h) (.inl ⟨rfl, fun w' hSw => ?h1_12_13⟩) hS ?_
      case h1_12_13 => (go_simp; first | done | with_reducible rfl)
      simp only [Act.put, List.setIfInBounds_toArray, List.set_cons_zero, List.set_cons_succ]
      refine takeAny 13 (dN := some 31) (v := ?v1_13_14) rfl rfl (by kernel_rfl) (by kernel_rfl) (by kernel_rfl) (fun _ _ _ h => h) (.inl ⟨rfl, fun w' hSw => ?h1_13_14⟩) hS ?_
      case h1_13_14 => (go_simp; first | done | with_reducible rfl)
      simp only [Act.put, List.setIfInBounds_toArray, List.set_cons_zero, List.set_cons_succ]
      refine takeAny 14 (dN := some 32) (v := ?v1_14_15) rfl rfl (by kernel_rfl) (by kernel_rfl) (by kernel_rfl) (fun _ _ _ h => h) (.inl ⟨rfl, fun w' hSw => ?h1_14_15⟩) hS ?_
      case h1_14_15 => (go_simp; first | done | with_reducible rfl)
      simp only [Act.put, List.setIfInBounds_toArray, List.set_cons_zero, List.set_cons_succ]
      refine takeAny 15 (dN := some 33) (v := ?v1_15_16) rfl rfl (by kernel_rfl) (by kernel_rfl) (by kernel_rfl) (fun _ _ _ h => h) (.inl ⟨rfl, fun w' hSw => ?h1_15_16⟩) hS ?_
      case h1_15_16 => (go_simp; first | done | with_reducible rfl)
      simp only [Act.put, List.setIfInBounds_toArray, List.set_cons_zero, List.set_cons_succ]
      refine takeAny 16 (dN := some 34) (v := ?v1_16_17) rfl rfl (by kernel_rfl) (by kernel_rfl) (by kernel_rfl) (fun _ _ _ h => h) (.inl ⟨rfl, fun w' hSw => ?h1_16_17⟩) hS ?_
      case h1_16_17 => (go_simp; first | done | with_reducible rfl)
      simp only [Act.put, List.setIfInBounds_toArray, List.set_cons_zero, List.set_cons_succ]
      refine takeAny 17 (dN := some 35) (v := ?v1_17_18) rfl rfl (by kernel_rfl) (by kernel_rfl) (by kernel_rfl) (fun _ _ _ h => h) (.inl ⟨rfl, fun w' hSw => ?h1_17_18⟩) hS ?_
      case h1_17_18 => (go_simp; first | done | with_reducible rfl)
      simp only [Act.put, List.setIfInBounds_toArray, List.set_cons_zero, List.set_cons_succ]
      refine takeAny 18 (dN := some 36) (v := ?v1_18_19) rfl rfl (by kernel_rfl) (by kernel_rfl) (by kernel_rfl) (fun _ _ _ h => h) (.inl ⟨rfl, fun w' hSw => ?h1_18_19⟩) hS ?_
      case h1_18_19 => (go_simp; first | done | with_reducible rfl)
      simp only [Act.put, List.setIfInBounds_toArray, List.set_cons_zero, List.set_cons_succ]
      refine wpAnyH_ready (rs := [19]) (by kernel_rfl) (by simp) (AllReadyH.cons rfl (fun K hK => ?_) AllReadyH.nil)
      go_simp
      refine hK.out _ _ ⟨celO e0 o1, celO e1 o2, celO e2 o2, celO e3 o1⟩ (fun hS => ?_)
      clear hK
      refine wpAnyH_done (by kernel_rfl) ?_ _
      clear e0 e1 e2 e3 e4 f4 x1 x2 hS
      go_wp2
      refine ⟨?_, by simp [intOf]; omega⟩
      have hr2 := hr.next (p := 2 + y * 10 + t) (i := y * 10 + t) (v := v) (Nat.add_assoc _ _ _) (by omega) (by show Lw.mk _ _ (laidC _ _ _ (k + 1)) = _; unfold laidC mirN srcN; rw [HX.out, HY.out, ← HT.out, ← HV.out]; rfl) (.cells #[.int .i8 x, .int .i8 y] 44)
      first | exact ⟨k + 1, by omega, by go_num, hr2⟩ | ((repeat (apply Exists.intro)); exact ⟨⟨k + 1, by omega, by go_num, hr2⟩, rfl⟩)
    · have hd : decide ((k : Int) < N) = false := by simp; omega
      have e : k = N := by omega
      have E := Lib.hid e
      clear e
      go_wp2_with (first | (refine loadRow 38 rfl rfl rfl rfl Try.underlying28 rfl hr.2.2.2.1 (by rw [Lw.size]; exact size28) ?_) | (refine storeRow rfl rfl rfl rfl rfl hr.2.2.1 (by rw [Lw.size]; exact size28) (by simp only [Lw.size]) (Lw.one _) ?_; intro w4 j1 j2 j3 j4))
      exact retRow rfl rfl j1 Try.underlying28 rfl (by rw [Lw.size]; exact size28) rfl ⟨by rw [E.out], belT hr.1 j3 (by omega)⟩

set_option maxRecDepth 100000 in
set_option maxHeartbeats 4000000 in
theorem mirrorOk (L : Lw) (hL : Lw.Ok L) (hv : validB L = true) (W H : Nat) (hw : L.wide = W) (hh : L.high = H) (hW1 : 1 ≤ W) (hW : W ≤ 10) (hH1 : 1 ≤ H) (hH : H ≤ 10) (w : World) :
    Calls Try.prog 14 #[.agg L.cells] w fun e w' => e = .returned (.tuple #[.agg (mirL L W H (W * H)).cells, .int .i64 0]) ∧ Below w.heap.size w w' := by
  obtain ⟨hz, hz2⟩ := zero_of_info zeroLw
  have HC := fun (w : World) => cells0 L hL w
  rw [show codeB L true = 0 by simp [codeB, hv]] at HC
  have HC := Lib.hid HC
  have HM := Lib.hid (fun (w : World) => mirroredOk L hL W H hw hh hW1 hW hH1 hH w)
  clear hv hL hw hh
  go_enter Try.func14, Try.ntmps14
  go_wp2_with (first | (refine loadRow 5 rfl rfl rfl rfl Try.underlying28 rfl (blkA (blkN rfl)) (by rw [Lw.size]; exact size28) ?_) | (refine loadRow 11 rfl rfl rfl rfl Try.underlying28 rfl h1 (by rw [Lw.size]; exact size28) ?_) | (go_at_call 24; refine (HC.out _).mono ?_; rintro e w1 ⟨rfl, hb⟩; have hB1 := belW (belA (belA (Below.refl w.heap.size w))) hb; have h1 : w1.heap[w.heap.size]? = some (.cells L.cells 28 (0, 0)) := blkB hb (blkA (blkN rfl)) (by first | (simp; done) | (simp; omega)); have h2 : w1.heap[w.heap.size + 1]? = some (.cells (Lw.cells ⟨0, 0, fun _ => 0⟩) 28 (0, 0)) := blkB hb (blkN (by simp)) (by first | (simp; done) | (simp; omega))) | (go_at_call 27; refine (HM.out _).mono ?_; rintro e w2 ⟨rfl, hb2⟩; have hB2 := belW hB1 hb2; have h3 := blkB hb2 h2 (blkLt h2)) | (refine storeRow rfl rfl rfl rfl rfl h3 (by rw [Lw.size]; exact size28) (by simp only [Lw.size]) (Lw.one _) ?_; intro w4 j1 j2 j3 j4))
  exact retRowTmp rfl rfl rfl j1 Try.underlying28 rfl (by rw [Lw.size]; exact size28) rfl ⟨rfl, belT hB2 j3 (by omega)⟩
set_option maxRecDepth 100000 in
set_option maxHeartbeats 4000000 in
theorem mirrorNo (L : Lw) (hL : Lw.Ok L) (hv : validB L = false) (w : World) :
    Calls Try.prog 14 #[.agg L.cells] w fun e w' => e = .returned (.tuple #[.agg (Lw.cells ⟨0, 0, fun _ => 0⟩), .int .i64 1]) ∧ Below w.heap.size w w' := by
  obtain ⟨hz, hz2⟩ := zero_of_info zeroLw
  have HC := fun (w : World) => cells0 L hL w
  rw [show codeB L true = 1 by simp [codeB, hv]] at HC
  have HC := Lib.hid HC
  clear hv hL
  go_enter Try.func14, Try.ntmps14
  go_wp2_with (first | (refine loadRow 5 rfl rfl rfl rfl Try.underlying28 rfl (blkA (blkN rfl)) (by rw [Lw.size]; exact size28) ?_) | (go_at_call 24; refine (HC.out _).mono ?_; rintro e w1 ⟨rfl, hb⟩; have hB1 := belW (belA (belA (Below.refl w.heap.size w))) hb; have h2 : w1.heap[w.heap.size + 1]? = some (.cells (Lw.cells ⟨0, 0, fun _ => 0⟩) 28 (0, 0)) := blkB hb (blkN (by simp)) (by first | (simp; done) | (simp; omega))) | (refine storeRow rfl rfl rfl rfl rfl h2 (by rw [Lw.size]; exact size28) rfl (Lw.one _) ?_; intro w4 j1 j2 j3 j4))
  exact retRowTmp rfl rfl rfl j1 Try.underlying28 rfl (by rw [Lw.size]; exact size28) rfl ⟨rfl, belT hB1 j3 (by omega)⟩
end Go.Proofs.Ytefdnnjnmgnnpaa.L
