/- Walks: the corners of a lawn; the program's. -/
import Derived.Test.YtchhjdjdhlfhlaaCorners
namespace Go.Proofs.Ytchhjdjdhlfhlaa.L
set_option linter.unusedSimpArgs false
set_option linter.unusedVariables false
open Go.RowKit Go.Proofs.Ytchhjdjdhlfhlaa.B

set_option maxRecDepth 100000 in
set_option maxHeartbeats 8000000 in
theorem cornersOk (L : Lw) (hL : Lw.Ok L) (hv : validB L = true) (W H : Nat) (hw : L.wide = W) (hh : L.high = H) (hW1 : 1 ≤ W) (hW : W ≤ 10) (hH1 : 1 ≤ H) (hH : H ≤ 10) (w : World) :
    Calls Try.prog 13 #[.agg L.cells] w fun e w' => e = .returned (.tuple #[.int .i64 (cornN L (W + 1) ((H + 1) * (W + 1))), .int .i64 0]) ∧ Below w.heap.size w w' := by
  have HC := fun (w : World) => valid L hL w
  rw [hv] at HC
  have HC := Lib.hid HC
  have HG := Lib.hid (fun (x y : Int) (w : World) => grass L hL x y (hin hw hh hW hH x y) w)
  have g0 := L.get0
  have g1 := L.get1
  rw [hw] at g0
  rw [hh] at g1
  clear hw hh hv hL
  go_enter Try.func13, Try.ntmps13
  go_wp2_with (first | (refine loadRow 12 rfl rfl rfl rfl Try.underlying30 rfl (blkN rfl) (by rw [Lw.size]; exact size28) ?_) | (go_at_call 26; refine (HC.out _).mono ?_; rintro e w1 ⟨rfl, hb⟩; have hB1 := belW (belA (Below.refl w.heap.size w)) hb; have h1 : w1.heap[w.heap.size]? = some (.cells L.cells 30 (0, 0)) := blkB hb (blkN rfl) (by simp)))
  have HR0 := Lib.hid (show CornR L w w1 from ⟨hB1, h1⟩)
  clear hB1 h1 hb
  go_loopw [4, 5] (fun n i wr => ∃ y : Nat, y ≤ H + 1 ∧ i = .int .i8 y ∧ n = .int .i64 (cornN L (W + 1) (y * (W + 1))) ∧ CornR L w wr) (fun _ i _ => H + 1 - (intOf i).toNat)
  case atStart => exact ⟨0, by omega, rfl, by rw [Nat.zero_mul]; rfl, HR0.out⟩
  case round =>
    obtain ⟨y, hy, rfl, rfl, hr⟩ := hrel
    have d1 := (blkC hr.2 1).trans g1
    by_cases hy1 : y < H + 1
    · have hd : decide ((y : Int) ≤ H) = true := by simp; omega
      have hdn : decide (y ≤ H) = true := by simp; omega
      go_wp2
      clear d1
      go_loopw [4, 6] (fun n i wr => ∃ x : Nat, x ≤ W + 1 ∧ i = .int .i8 x ∧ n = .int .i64 (cornN L (W + 1) (y * (W + 1) + x)) ∧ CornR L w wr) (fun _ i _ => W + 1 - (intOf i).toNat)
      case atStart => exact ⟨0, by omega, rfl, rfl, hr⟩
      case round =>
        obtain ⟨x, hx, rfl, rfl, hr⟩ := hrel
        have d0 := (blkC hr.2 0).trans g0
        by_cases hx1 : x < W + 1
        · have hd2 : decide ((x : Int) ≤ W) = true := by simp; omega
          have hd2n : decide (x ≤ W) = true := by simp; omega
          have hnn := cornN_in L (W + 1) (y * (W + 1) + x)
          have hkk : y * (W + 1) ≤ 10 * 11 := Nat.mul_le_mul (by omega) (by omega)
          have hn2 := cornN_at L (V := W + 1) (j := x) (k := y) hx1
          unfold cornAt at hn2
          obtain ⟨n, hn⟩ : ∃ n, n = cornN L (W + 1) (y * (W + 1) + x) := ⟨_, rfl⟩
          rw [← hn] at hnn hn2 ⊢
          have GA := fun (W1 : World) => HG.out (x - 1) (y - 1) W1
          have GB := fun (W1 : World) => HG.out x (y - 1) W1
          have GC := fun (W1 : World) => HG.out (x - 1) y W1
          have GD := fun (W1 : World) => HG.out x y W1
          generalize isB L 0 (x - 1) (y - 1) = a at *
          generalize isB L 0 x (y - 1) = b at *
          generalize isB L 0 (x - 1) y = c at *
          generalize isB L 0 x y = d at *
          have GA := Lib.hid GA
          have GB := Lib.hid GB
          have GC := Lib.hid GC
          have GD := Lib.hid GD
          have HN2 := Lib.hid hn2
          have nb0 : 0 ≤ n := hnn.1
          have nb1 : n ≤ 1000 := by omega
          clear hn2 hn hnn
          have x1 : IntKind.i8.wrap ((x : Int) - 1) = (x : Int) - 1 := i8_in (by omega) (by omega)
          have x2 : IntKind.i8.wrap ((y : Int) - 1) = (y : Int) - 1 := i8_in (by omega) (by omega)
          go_wp2
          refine wp_region_held_drew (S := fun w' => Below w.heap.size w w' ∧ w'.heap[w.heap.size]? = some (.cells L.cells 30 (0, 0))) (by kernel_rfl) ⟨belD hr.1, blkD hr.2⟩ (fun hS => ?_)
          refine takeRow 0 rfl rfl (by kernel_rfl) (by kernel_rfl) (by kernel_rfl) (fun _ _ _ h => h) rfl rfl rfl Try.underlying30 rfl (fun w h => h.2) (by rw [Lw.size]; exact size28) hS ?_
          simp only [Act.put, List.setIfInBounds_toArray, List.set_cons_zero, List.set_cons_succ]
          refine takeAny 1 (dN := some 28) (v := ?v1_1_2) rfl rfl (by kernel_rfl) (by kernel_rfl) (by kernel_rfl) (fun _ _ _ h => h) (.inl ⟨rfl, fun w' hSw => ?h1_1_2⟩) hS ?_
          case h1_1_2 => (go_simp; first | done | with_reducible rfl)
          simp only [Act.put, List.setIfInBounds_toArray, List.set_cons_zero, List.set_cons_succ]
          refine takeAny 2 (dN := some 29) (v := ?v1_2_3) rfl rfl (by kernel_rfl) (by kernel_rfl) (by kernel_rfl) (fun _ _ _ h => h) (.inl ⟨rfl, fun w' hSw => ?h1_2_3⟩) hS ?_
          case h1_2_3 => (go_simp; first | done | with_reducible rfl)
          simp only [Act.put, List.setIfInBounds_toArray, List.set_cons_zero, List.set_cons_succ]
          refine takeAny 3 (dN := some 30) (v := ?v1_3_4) rfl rfl (by kernel_rfl) (by kernel_rfl) (by kernel_rfl) (fun _ _ _ h => h) (.inl ⟨rfl, fun w' hSw => ?h1_3_4⟩) hS ?_
          case h1_3_4 => (go_simp; first | done | with_reducible rfl)
          simp only [Act.put, List.setIfInBounds_toArray, List.set_cons_zero, List.set_cons_succ]
          refine takeAny 4 (dN := some 31) (v := ?v1_4_5) rfl rfl (by kernel_rfl) (by kernel_rfl) (by kernel_rfl) (fun _ _ _ h => h) (.inl ⟨rfl, fun w' hSw => ?h1_4_5⟩) hS ?_
          case h1_4_5 => (go_simp; first | done | with_reducible rfl)
          simp only [Act.put, List.setIfInBounds_toArray, List.set_cons_zero, List.set_cons_succ]
          refine takeAny 5 (dN := some 32) (v := ?v1_5_6) rfl rfl (by kernel_rfl) (by kernel_rfl) (by kernel_rfl) (fun _ _ _ h => h) (.inl ⟨rfl, fun w' hSw => ?h1_5_6⟩) hS ?_
          case h1_5_6 => (go_simp; first | done | with_reducible rfl)
          simp only [Act.put, List.setIfInBounds_toArray, List.set_cons_zero, List.set_cons_succ]
          refine takeRow 7 rfl rfl (by kernel_rfl) (by kernel_rfl) (by kernel_rfl) (fun _ _ _ h => h) rfl rfl rfl Try.underlying30 rfl (fun w h => h.2) (by rw [Lw.size]; exact size28) hS ?_
          simp only [Act.put, List.setIfInBounds_toArray, List.set_cons_zero, List.set_cons_succ]
          refine takeAny 8 (dN := some 35) (v := ?v1_8_8) rfl rfl (by kernel_rfl) (by kernel_rfl) (by kernel_rfl) (fun _ _ _ h => h) (.inl ⟨rfl, fun w' hSw => ?h1_8_8⟩) hS ?_
          case h1_8_8 => (go_simp; first | done | with_reducible rfl)
          simp only [Act.put, List.setIfInBounds_toArray, List.set_cons_zero, List.set_cons_succ]
          refine takeAny 9 (dN := some 36) (v := ?v1_9_9) rfl rfl (by kernel_rfl) (by kernel_rfl) (by kernel_rfl) (fun _ _ _ h => h) (.inl ⟨rfl, fun w' hSw => ?h1_9_9⟩) hS ?_
          case h1_9_9 => (go_simp; first | done | with_reducible rfl)
          simp only [Act.put, List.setIfInBounds_toArray, List.set_cons_zero, List.set_cons_succ]
          refine takeAny 10 (dN := some 37) (v := ?v1_10_10) rfl rfl (by kernel_rfl) (by kernel_rfl) (by kernel_rfl) (fun _ _ _ h => h) (.inl ⟨rfl, fun w' hSw => ?h1_10_10⟩) hS ?_
          case h1_10_10 => (go_simp; first | done | with_reducible rfl)
          simp only [Act.put, List.setIfInBounds_toArray, List.set_cons_zero, List.set_cons_succ]
          refine takeAny 11 (dN := some 38) (v := ?v1_11_11) rfl rfl (by kernel_rfl) (by kernel_rfl) (by kernel_rfl) (fun _ _ _ h => h) (.inl ⟨rfl, fun w' hSw => ?h1_11_11⟩) hS ?_
          case h1_11_11 => (go_simp; first | done | with_reducible rfl)
          simp only [Act.put, List.setIfInBounds_toArray, List.set_cons_zero, List.set_cons_succ]
          refine takeRow 13 rfl rfl (by kernel_rfl) (by kernel_rfl) (by kernel_rfl) (fun _ _ _ h => h) rfl rfl rfl Try.underlying30 rfl (fun w h => h.2) (by rw [Lw.size]; exact size28) hS ?_
          simp only [Act.put, List.setIfInBounds_toArray, List.set_cons_zero, List.set_cons_succ]
          refine takeAny 14 (dN := some 41) (v := ?v1_14_13) rfl rfl (by kernel_rfl) (by kernel_rfl) (by kernel_rfl) (fun _ _ _ h => h) (.inl ⟨rfl, fun w' hSw => ?h1_14_13⟩) hS ?_
          case h1_14_13 => (go_simp; first | done | with_reducible rfl)
          simp only [Act.put, List.setIfInBounds_toArray, List.set_cons_zero, List.set_cons_succ]
          refine takeAny 15 (dN := some 42) (v := ?v1_15_14) rfl rfl (by kernel_rfl) (by kernel_rfl) (by kernel_rfl) (fun _ _ _ h => h) (.inl ⟨rfl, fun w' hSw => ?h1_15_14⟩) hS ?_
          case h1_15_14 => (go_simp; first | done | with_reducible rfl)
          simp only [Act.put, List.setIfInBounds_toArray, List.set_cons_zero, List.set_cons_succ]
          refine takeAny 16 (dN := some 43) (v := ?v1_16_15) rfl rfl (by kernel_rfl) (by kernel_rfl) (by kernel_rfl) (fun _ _ _ h => h) (.inl ⟨rfl, fun w' hSw => ?h1_16_15⟩) hS ?_
          case h1_16_15 => (go_simp; first | done | with_reducible rfl)
          simp only [Act.put, List.setIfInBounds_toArray, List.set_cons_zero, List.set_cons_succ]
          refine takeAny 17 (dN := some 44) (v := ?v1_17_16) rfl rfl (by kernel_rfl) (by kernel_rfl) (by kernel_rfl) (fun _ _ _ h => h) (.inl ⟨rfl, fun w' hSw => ?h1_17_16⟩) hS ?_
          case h1_17_16 => (go_simp; first | done | with_reducible rfl)
          simp only [Act.put, List.setIfInBounds_toArray, List.set_cons_zero, List.set_cons_succ]
          refine takeRow 19 rfl rfl (by kernel_rfl) (by kernel_rfl) (by kernel_rfl) (fun _ _ _ h => h) rfl rfl rfl Try.underlying30 rfl (fun w h => h.2) (by rw [Lw.size]; exact size28) hS ?_
          simp only [Act.put, List.setIfInBounds_toArray, List.set_cons_zero, List.set_cons_succ]
          refine takeAny 20 (dN := some 47) (v := ?v1_20_18) rfl rfl (by kernel_rfl) (by kernel_rfl) (by kernel_rfl) (fun _ _ _ h => h) (.inl ⟨rfl, fun w' hSw => ?h1_20_18⟩) hS ?_
          case h1_20_18 => (go_simp; first | done | with_reducible rfl)
          simp only [Act.put, List.setIfInBounds_toArray, List.set_cons_zero, List.set_cons_succ]
          refine takeAny 21 (dN := some 48) (v := ?v1_21_19) rfl rfl (by kernel_rfl) (by kernel_rfl) (by kernel_rfl) (fun _ _ _ h => h) (.inl ⟨rfl, fun w' hSw => ?h1_21_19⟩) hS ?_
          case h1_21_19 => (go_simp; first | done | with_reducible rfl)
          simp only [Act.put, List.setIfInBounds_toArray, List.set_cons_zero, List.set_cons_succ]
          refine takeAny 22 (dN := some 49) (v := ?v1_22_20) rfl rfl (by kernel_rfl) (by kernel_rfl) (by kernel_rfl) (fun _ _ _ h => h) (.inl ⟨rfl, fun w' hSw => ?h1_22_20⟩) hS ?_
          case h1_22_20 => (go_simp; first | done | with_reducible rfl)
          simp only [Act.put, List.setIfInBounds_toArray, List.set_cons_zero, List.set_cons_succ]
          refine wpAnyH_ready (rs := [6]) (by kernel_rfl) (by simp) (AllReadyH.cons rfl (fun K hK => ?_) AllReadyH.nil)
          go_simp
          go_at_call 25
          refine (GA.out _).mono ?_
          rintro e w10_6 ⟨rfl, hb⟩
          refine hK.out _ _ ⟨belW hS.1 hb, blkB hb hS.2 (blkLt hS.2)⟩ (fun hS => ?_)
          clear hb hK
          refine wpAnyH_ready (rs := [12]) (by kernel_rfl) (by simp) (AllReadyH.cons rfl (fun K hK => ?_) AllReadyH.nil)
          go_simp
          go_at_call 25
          refine (GB.out _).mono ?_
          rintro e w10_12 ⟨rfl, hb⟩
          refine hK.out _ _ ⟨belW hS.1 hb, blkB hb hS.2 (blkLt hS.2)⟩ (fun hS => ?_)
          clear hb hK
          refine wpAnyH_ready (rs := [18]) (by kernel_rfl) (by simp) (AllReadyH.cons rfl (fun K hK => ?_) AllReadyH.nil)
          go_simp
          go_at_call 25
          refine (GC.out _).mono ?_
          rintro e w10_18 ⟨rfl, hb⟩
          refine hK.out _ _ ⟨belW hS.1 hb, blkB hb hS.2 (blkLt hS.2)⟩ (fun hS => ?_)
          clear hb hK
          refine wpAnyH_ready (rs := [23]) (by kernel_rfl) (by simp) (AllReadyH.cons rfl (fun K hK => ?_) AllReadyH.nil)
          go_simp
          go_at_call 25
          refine (GD.out _).mono ?_
          rintro e w10_23 ⟨rfl, hb⟩
          refine hK.out _ _ ⟨belW hS.1 hb, blkB hb hS.2 (blkLt hS.2)⟩ (fun hS => ?_)
          clear hb hK
          refine takeAny 24 (dN := some 7) (v := ?v1_24_25) rfl rfl (by kernel_rfl) (by kernel_rfl) (by kernel_rfl) (fun _ _ _ h => h) (.inl ⟨rfl, fun w' hSw => ?h1_24_25⟩) hS ?_
          case h1_24_25 => (go_simp; first | done | with_reducible rfl)
          simp only [Act.put, List.setIfInBounds_toArray, List.set_cons_zero, List.set_cons_succ]
          refine takeAny 25 (dN := some 8) (v := ?v1_25_26) rfl rfl (by kernel_rfl) (by kernel_rfl) (by kernel_rfl) (fun _ _ _ h => h) (.inl ⟨rfl, fun w' hSw => ?h1_25_26⟩) hS ?_
          case h1_25_26 => (go_simp; first | done | with_reducible rfl)
          simp only [Act.put, List.setIfInBounds_toArray, List.set_cons_zero, List.set_cons_succ]
          refine takeAny 26 (dN := some 9) (v := ?v1_26_27) rfl rfl (by kernel_rfl) (by kernel_rfl) (by kernel_rfl) (fun _ _ _ h => h) (.inl ⟨rfl, fun w' hSw => ?h1_26_27⟩) hS ?_
          case h1_26_27 => (go_simp; first | done | with_reducible rfl)
          simp only [Act.put, List.setIfInBounds_toArray, List.set_cons_zero, List.set_cons_succ]
          refine takeAny 27 (dN := some 10) (v := ?v1_27_28) rfl rfl (by kernel_rfl) (by kernel_rfl) (by kernel_rfl) (fun _ _ _ h => h) (.inl ⟨rfl, fun w' hSw => ?h1_27_28⟩) hS ?_
          case h1_27_28 => (go_simp; first | done | with_reducible rfl)
          simp only [Act.put, List.setIfInBounds_toArray, List.set_cons_zero, List.set_cons_succ]
          refine wpAnyH_done (by kernel_rfl) ?_ _
          have r4 : CornR L w (w10_23.alloc (.cells #[.bool a, .bool b, .bool c, .bool d] 4)) := ⟨belA hS.1, blkA hS.2⟩
          obtain ⟨m, hm⟩ : ∃ m, m = cntL [a, b, c, d] 4 := ⟨_, rfl⟩
          have HT := times4 a b c d w10_23.heap.size _ (blkN (w := w10_23) rfl)
          rw [← hm] at HT
          have HT := Lib.hid HT
          have HM := Lib.hid hm
          clear hS GA GB GC GD hm x1 x2
          go_wp2_with fail
          refine HT.out.mono ?_
          rintro e w5 ⟨rfl, rfl⟩
          clear HT
          cases a <;> cases b <;> cases c <;> cases d
          all_goals
            have hm := HM.out
            clear HM
            first | obtain rfl : m = 0 := hm.trans rfl | obtain rfl : m = 1 := hm.trans rfl | obtain rfl : m = 2 := hm.trans rfl | obtain rfl : m = 3 := hm.trans rfl | obtain rfl : m = 4 := hm.trans rfl
            clear hm
            go_wp2
            refine ⟨?_, by simp [intOf]; omega⟩
            first | refine ⟨x + 1, by omega, by go_num, ?_, r4⟩ | ((repeat (apply Exists.intro)); refine ⟨⟨x + 1, by omega, by go_num, ?_, r4⟩, rfl⟩)
            exact cornV HN2.out
        · have hd2 : decide ((x : Int) ≤ W) = false := by simp; omega
          have hd2n : decide (x ≤ W) = false := by simp; omega
          have e : y * (W + 1) + x = (y + 1) * (W + 1) := by rw [Nat.add_mul y 1 (W + 1)]; omega
          have E := Lib.hid e
          clear e
          go_wp2
          refine ⟨?_, by simp [intOf]; omega⟩
          first | exact ⟨y + 1, by omega, by go_num, by rw [E.out], hr⟩ | ((repeat (apply Exists.intro)); exact ⟨⟨y + 1, by omega, by go_num, by rw [E.out], hr⟩, rfl⟩)
    · have hd : decide ((y : Int) ≤ H) = false := by simp; omega
      have hdn : decide (y ≤ H) = false := by simp; omega
      have e : y = H + 1 := by omega
      have E := Lib.hid e
      clear e
      go_wp2
      go_ret2
      exact ⟨by rw [E.out]; rfl, hr.1⟩
end Go.Proofs.Ytchhjdjdhlfhlaa.L
