/- Walks: which lawns are valid, as the reference tells it. -/
import Derived.Test.YtchhjdjdhlfhlaaValid
import Derived.IntWalk
namespace Go.Proofs.Ytchhjdjdhlfhlaa.L
set_option linter.unusedSimpArgs false
set_option linter.unusedVariables false
open Go.RowKit Go.Proofs.Ytchhjdjdhlfhlaa.B

def inB (n a b : Int) : Bool := decide (a ≤ n) && decide (n ≤ b)
set_option maxHeartbeats 1000000 in
theorem sIn (n a b : Int) (w : World) : Calls Try.prog 61 #[.int .i64 n, .int .i64 a, .int .i64 b] w fun e w' => e = .returned (.bool (inB n a b)) ∧ w = w' := by
  rcases twoways (decide (a ≤ n)) with b1 | b1
  · go_enter Try.func61, Try.ntmps61
    go_wp2
    go_ret
    exact ⟨by simp [inB, b1], rfl⟩
  · go_enter Try.func61, Try.ntmps61
    go_wp2
    go_ret
    exact ⟨by simp [inB, b1], rfl⟩
theorem hasB_in (L : Lw) (x y : Int) : hasB L x y = (inB x 0 (L.wide - 1) && inB y 0 (L.high - 1)) := by
  unfold hasB inB
  rw [show decide (x ≤ L.wide - 1) = decide (x < L.wide) from by rw [decide_eq_decide]; omega, show decide (y ≤ L.high - 1) = decide (y < L.high) from by rw [decide_eq_decide]; omega]
  simp [Bool.and_assoc]

set_option maxRecDepth 100000 in
set_option maxHeartbeats 1000000 in
theorem sIs (L : Lw) (hL : Lw.Ok L) (x y : Int) (g : Nat) (t : TypeId) (hx0 : -128 ≤ x) (hx1 : x ≤ 127) (hy0 : -128 ≤ y) (hy1 : y ≤ 127) (w : World) (hg : w.heap[g]? = some (.cells L.cells t (0, 0))) :
    Calls Try.prog 48 #[.pointer (some ⟨g, 0, none⟩), .agg #[.int .i8 x, .int .i8 y]] w fun e w' => e = .returned (.bool (hasB L x y)) ∧ Below w.heap.size w w' := by
  obtain ⟨l1, l2, l3, l4, _⟩ := hL
  have g0 := L.get0
  have g1 := L.get1
  have HH := Lib.hid (hasB_in L x y)
  obtain ⟨W0, hW0⟩ : ∃ W0, W0 = (w.alloc (.cells #[.int .i8 x, .int .i8 y] 44)).drew := ⟨_, rfl⟩
  have c0 : Below w.heap.size w W0 := by rw [hW0]; exact belD (belA (Below.refl _ _))
  have cg : W0.heap[g]? = some (.cells L.cells t (0, 0)) := by rw [hW0]; exact blkD (blkA hg)
  have cn : W0.heap[w.heap.size]? = some (.cells #[.int .i8 x, .int .i8 y] 44 (0, 0)) := by rw [hW0]; exact blkD (blkN rfl)
  have c1 : W0.cell? ⟨w.heap.size, 0, none⟩ = some (.int .i8 x) := (blkC cn 0).trans rfl
  have c2 : W0.cell? ⟨w.heap.size, 1, none⟩ = some (.int .i8 y) := (blkC cn 1).trans rfl
  have c3 : W0.cell? ⟨g, 0, none⟩ = some (.int .i8 L.wide) := (blkC cg 0).trans g0
  have c4 : W0.cell? ⟨g, 1, none⟩ = some (.int .i8 L.high) := (blkC cg 1).trans g1
  clear cg cn
  rw [hW0] at c0 c1 c2 c3 c4
  clear hW0
  have x1 : IntKind.i64.wrap x = x := IntWalk.i64_in _ (by omega)
  have x2 : IntKind.i64.wrap L.wide = L.wide := IntWalk.i64_in _ (by omega)
  have x3 : IntKind.i64.wrap (L.wide - 1) = L.wide - 1 := IntWalk.i64_in _ (by omega)
  have x4 : IntKind.i64.wrap y = y := IntWalk.i64_in _ (by omega)
  have x5 : IntKind.i64.wrap L.high = L.high := IntWalk.i64_in _ (by omega)
  have x6 : IntKind.i64.wrap (L.high - 1) = L.high - 1 := IntWalk.i64_in _ (by omega)
  clear hx0 hx1 hy0 hy1 l1 l2 l3 l4
  rcases twoways (inB x 0 (L.wide - 1)) with b1 | b1
  · go_enter Try.func48, Try.ntmps48
    go_wp2
    refine wp_region_held_drew (S := fun w' => Below w.heap.size w w' ∧ w'.cell? ⟨w.heap.size, 0, none⟩ = some (.int .i8 x) ∧ w'.cell? ⟨w.heap.size, 1, none⟩ = some (.int .i8 y) ∧ w'.cell? ⟨g, 0, none⟩ = some (.int .i8 L.wide) ∧ w'.cell? ⟨g, 1, none⟩ = some (.int .i8 L.high)) (by kernel_rfl) ⟨c0, c1, c2, c3, c4⟩ (fun hS => ?_)
    refine takeAny 0 (dN := some 5) (v := ?v1_0_1) rfl rfl (by kernel_rfl) (by kernel_rfl) (by kernel_rfl) (fun _ _ _ h => h) (.inl ⟨rfl, fun w' hSw => ?h1_0_1⟩) hS ?_
    case h1_0_1 => (go_simp; first | done | with_reducible rfl)
    simp only [Act.put, List.setIfInBounds_toArray, List.set_cons_zero, List.set_cons_succ]
    refine takeAny 1 (dN := some 6) (v := ?v1_1_2) rfl rfl (by kernel_rfl) (by kernel_rfl) (by kernel_rfl) (fun _ _ _ h => h) (.inl ⟨rfl, fun w' hSw => ?h1_1_2⟩) hS ?_
    case h1_1_2 => (go_simp; first | done | with_reducible rfl)
    simp only [Act.put, List.setIfInBounds_toArray, List.set_cons_zero, List.set_cons_succ]
    refine takeAny 2 (dN := some 7) (v := ?v1_2_3) rfl rfl (by kernel_rfl) (by kernel_rfl) (by kernel_rfl) (fun _ _ _ h => h) (.inl ⟨rfl, fun w' hSw => ?h1_2_3⟩) hS ?_
    case h1_2_3 => (go_simp; first | done | with_reducible rfl)
    simp only [Act.put, List.setIfInBounds_toArray, List.set_cons_zero, List.set_cons_succ]
    refine takeAny 3 (dN := some 8) (v := ?v1_3_4) rfl rfl (by kernel_rfl) (by kernel_rfl) (by kernel_rfl) (fun _ _ _ h => h) (.inl ⟨rfl, fun w' hSw => ?h1_3_4⟩) hS ?_
    case h1_3_4 => (go_simp; first | done | with_reducible rfl)
    simp only [Act.put, List.setIfInBounds_toArray, List.set_cons_zero, List.set_cons_succ]
    refine takeAny 4 (dN := some 9) (v := ?v1_4_5) rfl rfl (by kernel_rfl) (by kernel_rfl) (by kernel_rfl) (fun _ _ _ h => h) (.inl ⟨rfl, fun w' hSw => ?h1_4_5⟩) hS ?_
    case h1_4_5 => (go_simp; first | done | with_reducible rfl)
    simp only [Act.put, List.setIfInBounds_toArray, List.set_cons_zero, List.set_cons_succ]
    refine takeAny 5 (dN := some 10) (v := ?v1_5_6) rfl rfl (by kernel_rfl) (by kernel_rfl) (by kernel_rfl) (fun _ _ _ h => h) (.inl ⟨rfl, fun w' hSw => ?h1_5_6⟩) hS ?_
    case h1_5_6 => (go_simp; first | done | with_reducible rfl)
    simp only [Act.put, List.setIfInBounds_toArray, List.set_cons_zero, List.set_cons_succ]
    refine takeAny 6 (dN := some 11) (v := ?v1_6_7) rfl rfl (by kernel_rfl) (by kernel_rfl) (by kernel_rfl) (fun _ _ _ h => h) (.inl ⟨rfl, fun w' hSw => ?h1_6_7⟩) hS ?_
    case h1_6_7 => (go_simp; first | done | with_reducible rfl)
    simp only [Act.put, List.setIfInBounds_toArray, List.set_cons_zero, List.set_cons_succ]
    refine takeAny 7 (dN := some 12) (v := ?v1_7_8) rfl rfl (by kernel_rfl) (by kernel_rfl) (by kernel_rfl) (fun _ _ _ h => h) (.inl ⟨rfl, fun w' hSw => ?h1_7_8⟩) hS ?_
    case h1_7_8 => (go_simp; first | done | with_reducible rfl)
    simp only [Act.put, List.setIfInBounds_toArray, List.set_cons_zero, List.set_cons_succ]
    refine takeAny 8 (dN := some 13) (v := ?v1_8_9) rfl rfl (by kernel_rfl) (by kernel_rfl) (by kernel_rfl) (fun _ _ _ h => h) (.inl ⟨rfl, fun w' hSw => ?h1_8_9⟩) hS ?_
    case h1_8_9 => (go_simp; first | done | with_reducible rfl)
    simp only [Act.put, List.setIfInBounds_toArray, List.set_cons_zero, List.set_cons_succ]
    refine wpAnyH_ready (rs := [9]) (by kernel_rfl) (by simp) (AllReadyH.cons rfl (fun K hK => ?_) AllReadyH.nil)
    go_simp
    go_at_call 61
    refine (sIn _ _ _ _).mono ?_
    rintro e w1_9 ⟨rfl, rfl⟩
    refine hK.out _ _ hS (fun hS => ?_)
    clear hK
    refine takeAny 10 (dN := some 15) (v := ?v1_10_11) rfl rfl (by kernel_rfl) (by kernel_rfl) (by kernel_rfl) (fun _ _ _ h => h) (.inl ⟨rfl, fun w' hSw => ?h1_10_11⟩) hS ?_
    case h1_10_11 => (go_simp; first | done | with_reducible rfl)
    simp only [Act.put, List.setIfInBounds_toArray, List.set_cons_zero, List.set_cons_succ]
    refine takeAny 11 (dN := some 16) (v := undef) rfl rfl (by kernel_rfl) (by kernel_rfl) (by kernel_rfl) (fun _ _ _ h => h) (.inr ⟨rfl, rfl⟩) hS ?_
    simp only [Act.put, List.setIfInBounds_toArray, List.set_cons_zero, List.set_cons_succ]
    refine takeAny 12 (dN := some 17) (v := undef) rfl rfl (by kernel_rfl) (by kernel_rfl) (by kernel_rfl) (fun _ _ _ h => h) (.inr ⟨rfl, rfl⟩) hS ?_
    simp only [Act.put, List.setIfInBounds_toArray, List.set_cons_zero, List.set_cons_succ]
    refine takeAny 13 (dN := some 18) (v := undef) rfl rfl (by kernel_rfl) (by kernel_rfl) (by kernel_rfl) (fun _ _ _ h => h) (.inr ⟨rfl, rfl⟩) hS ?_
    simp only [Act.put, List.setIfInBounds_toArray, List.set_cons_zero, List.set_cons_succ]
    refine takeAny 14 (dN := some 19) (v := undef) rfl rfl (by kernel_rfl) (by kernel_rfl) (by kernel_rfl) (fun _ _ _ h => h) (.inr ⟨rfl, rfl⟩) hS ?_
    simp only [Act.put, List.setIfInBounds_toArray, List.set_cons_zero, List.set_cons_succ]
    refine takeAny 15 (dN := some 20) (v := undef) rfl rfl (by kernel_rfl) (by kernel_rfl) (by kernel_rfl) (fun _ _ _ h => h) (.inr ⟨rfl, rfl⟩) hS ?_
    simp only [Act.put, List.setIfInBounds_toArray, List.set_cons_zero, List.set_cons_succ]
    refine takeAny 16 (dN := some 21) (v := undef) rfl rfl (by kernel_rfl) (by kernel_rfl) (by kernel_rfl) (fun _ _ _ h => h) (.inr ⟨rfl, rfl⟩) hS ?_
    simp only [Act.put, List.setIfInBounds_toArray, List.set_cons_zero, List.set_cons_succ]
    refine takeAny 17 (dN := some 22) (v := undef) rfl rfl (by kernel_rfl) (by kernel_rfl) (by kernel_rfl) (fun _ _ _ h => h) (.inr ⟨rfl, rfl⟩) hS ?_
    simp only [Act.put, List.setIfInBounds_toArray, List.set_cons_zero, List.set_cons_succ]
    refine takeAny 18 (dN := some 23) (v := undef) rfl rfl (by kernel_rfl) (by kernel_rfl) (by kernel_rfl) (fun _ _ _ h => h) (.inr ⟨rfl, rfl⟩) hS ?_
    simp only [Act.put, List.setIfInBounds_toArray, List.set_cons_zero, List.set_cons_succ]
    refine takeAny 19 (dN := some 24) (v := undef) rfl rfl (by kernel_rfl) (by kernel_rfl) (by kernel_rfl) (fun _ _ _ h => h) (.inr ⟨rfl, rfl⟩) hS ?_
    simp only [Act.put, List.setIfInBounds_toArray, List.set_cons_zero, List.set_cons_succ]
    refine takeAny 20 (dN := some 25) (v := undef) rfl rfl (by kernel_rfl) (by kernel_rfl) (by kernel_rfl) (fun _ _ _ h => h) (.inr ⟨rfl, rfl⟩) hS ?_
    simp only [Act.put, List.setIfInBounds_toArray, List.set_cons_zero, List.set_cons_succ]
    refine takeAny 21 (dN := some 26) (v := ?v1_21_22) rfl rfl (by kernel_rfl) (by kernel_rfl) (by kernel_rfl) (fun _ _ _ h => h) (.inl ⟨rfl, fun w' hSw => ?h1_21_22⟩) hS ?_
    case h1_21_22 => (go_simp; first | done | with_reducible rfl)
    simp only [Act.put, List.setIfInBounds_toArray, List.set_cons_zero, List.set_cons_succ]
    refine takeAny 22 (dN := some 4) (v := ?v1_22_23) rfl rfl (by kernel_rfl) (by kernel_rfl) (by kernel_rfl) (fun _ _ _ h => h) (.inl ⟨rfl, fun w' hSw => ?h1_22_23⟩) hS ?_
    case h1_22_23 => (go_simp; first | done | with_reducible rfl)
    simp only [Act.put, List.setIfInBounds_toArray, List.set_cons_zero, List.set_cons_succ]
    refine wpAnyH_done (by kernel_rfl) ?_ _
    go_wp2
    go_ret
    exact ⟨by rw [HH.out, b1]; rfl, c0⟩
  · go_enter Try.func48, Try.ntmps48
    go_wp2
    refine wp_region_held_drew (S := fun w' => Below w.heap.size w w' ∧ w'.cell? ⟨w.heap.size, 0, none⟩ = some (.int .i8 x) ∧ w'.cell? ⟨w.heap.size, 1, none⟩ = some (.int .i8 y) ∧ w'.cell? ⟨g, 0, none⟩ = some (.int .i8 L.wide) ∧ w'.cell? ⟨g, 1, none⟩ = some (.int .i8 L.high)) (by kernel_rfl) ⟨c0, c1, c2, c3, c4⟩ (fun hS => ?_)
    refine takeAny 0 (dN := some 5) (v := ?v2_0_1) rfl rfl (by kernel_rfl) (by kernel_rfl) (by kernel_rfl) (fun _ _ _ h => h) (.inl ⟨rfl, fun w' hSw => ?h2_0_1⟩) hS ?_
    case h2_0_1 => (go_simp; first | done | with_reducible rfl)
    simp only [Act.put, List.setIfInBounds_toArray, List.set_cons_zero, List.set_cons_succ]
    refine takeAny 1 (dN := some 6) (v := ?v2_1_2) rfl rfl (by kernel_rfl) (by kernel_rfl) (by kernel_rfl) (fun _ _ _ h => h) (.inl ⟨rfl, fun w' hSw => ?h2_1_2⟩) hS ?_
    case h2_1_2 => (go_simp; first | done | with_reducible rfl)
    simp only [Act.put, List.setIfInBounds_toArray, List.set_cons_zero, List.set_cons_succ]
    refine takeAny 2 (dN := some 7) (v := ?v2_2_3) rfl rfl (by kernel_rfl) (by kernel_rfl) (by kernel_rfl) (fun _ _ _ h => h) (.inl ⟨rfl, fun w' hSw => ?h2_2_3⟩) hS ?_
    case h2_2_3 => (go_simp; first | done | with_reducible rfl)
    simp only [Act.put, List.setIfInBounds_toArray, List.set_cons_zero, List.set_cons_succ]
    refine takeAny 3 (dN := some 8) (v := ?v2_3_4) rfl rfl (by kernel_rfl) (by kernel_rfl) (by kernel_rfl) (fun _ _ _ h => h) (.inl ⟨rfl, fun w' hSw => ?h2_3_4⟩) hS ?_
    case h2_3_4 => (go_simp; first | done | with_reducible rfl)
    simp only [Act.put, List.setIfInBounds_toArray, List.set_cons_zero, List.set_cons_succ]
    refine takeAny 4 (dN := some 9) (v := ?v2_4_5) rfl rfl (by kernel_rfl) (by kernel_rfl) (by kernel_rfl) (fun _ _ _ h => h) (.inl ⟨rfl, fun w' hSw => ?h2_4_5⟩) hS ?_
    case h2_4_5 => (go_simp; first | done | with_reducible rfl)
    simp only [Act.put, List.setIfInBounds_toArray, List.set_cons_zero, List.set_cons_succ]
    refine takeAny 5 (dN := some 10) (v := ?v2_5_6) rfl rfl (by kernel_rfl) (by kernel_rfl) (by kernel_rfl) (fun _ _ _ h => h) (.inl ⟨rfl, fun w' hSw => ?h2_5_6⟩) hS ?_
    case h2_5_6 => (go_simp; first | done | with_reducible rfl)
    simp only [Act.put, List.setIfInBounds_toArray, List.set_cons_zero, List.set_cons_succ]
    refine takeAny 6 (dN := some 11) (v := ?v2_6_7) rfl rfl (by kernel_rfl) (by kernel_rfl) (by kernel_rfl) (fun _ _ _ h => h) (.inl ⟨rfl, fun w' hSw => ?h2_6_7⟩) hS ?_
    case h2_6_7 => (go_simp; first | done | with_reducible rfl)
    simp only [Act.put, List.setIfInBounds_toArray, List.set_cons_zero, List.set_cons_succ]
    refine takeAny 7 (dN := some 12) (v := ?v2_7_8) rfl rfl (by kernel_rfl) (by kernel_rfl) (by kernel_rfl) (fun _ _ _ h => h) (.inl ⟨rfl, fun w' hSw => ?h2_7_8⟩) hS ?_
    case h2_7_8 => (go_simp; first | done | with_reducible rfl)
    simp only [Act.put, List.setIfInBounds_toArray, List.set_cons_zero, List.set_cons_succ]
    refine takeAny 8 (dN := some 13) (v := ?v2_8_9) rfl rfl (by kernel_rfl) (by kernel_rfl) (by kernel_rfl) (fun _ _ _ h => h) (.inl ⟨rfl, fun w' hSw => ?h2_8_9⟩) hS ?_
    case h2_8_9 => (go_simp; first | done | with_reducible rfl)
    simp only [Act.put, List.setIfInBounds_toArray, List.set_cons_zero, List.set_cons_succ]
    refine wpAnyH_ready (rs := [9]) (by kernel_rfl) (by simp) (AllReadyH.cons rfl (fun K hK => ?_) AllReadyH.nil)
    go_simp
    go_at_call 61
    refine (sIn _ _ _ _).mono ?_
    rintro e w1_9 ⟨rfl, rfl⟩
    refine hK.out _ _ hS (fun hS => ?_)
    clear hK
    refine takeAny 10 (dN := some 15) (v := ?v2_10_11) rfl rfl (by kernel_rfl) (by kernel_rfl) (by kernel_rfl) (fun _ _ _ h => h) (.inl ⟨rfl, fun w' hSw => ?h2_10_11⟩) hS ?_
    case h2_10_11 => (go_simp; first | done | with_reducible rfl)
    simp only [Act.put, List.setIfInBounds_toArray, List.set_cons_zero, List.set_cons_succ]
    refine takeAny 11 (dN := some 16) (v := ?v2_11_12) rfl rfl (by kernel_rfl) (by kernel_rfl) (by kernel_rfl) (fun _ _ _ h => h) (.inl ⟨rfl, fun w' hSw => ?h2_11_12⟩) hS ?_
    case h2_11_12 => (go_simp; first | done | with_reducible rfl)
    simp only [Act.put, List.setIfInBounds_toArray, List.set_cons_zero, List.set_cons_succ]
    refine takeAny 12 (dN := some 17) (v := ?v2_12_13) rfl rfl (by kernel_rfl) (by kernel_rfl) (by kernel_rfl) (fun _ _ _ h => h) (.inl ⟨rfl, fun w' hSw => ?h2_12_13⟩) hS ?_
    case h2_12_13 => (go_simp; first | done | with_reducible rfl)
    simp only [Act.put, List.setIfInBounds_toArray, List.set_cons_zero, List.set_cons_succ]
    refine takeAny 13 (dN := some 18) (v := ?v2_13_14) rfl rfl (by kernel_rfl) (by kernel_rfl) (by kernel_rfl) (fun _ _ _ h => h) (.inl ⟨rfl, fun w' hSw => ?h2_13_14⟩) hS ?_
    case h2_13_14 => (go_simp; first | done | with_reducible rfl)
    simp only [Act.put, List.setIfInBounds_toArray, List.set_cons_zero, List.set_cons_succ]
    refine takeAny 14 (dN := some 19) (v := ?v2_14_15) rfl rfl (by kernel_rfl) (by kernel_rfl) (by kernel_rfl) (fun _ _ _ h => h) (.inl ⟨rfl, fun w' hSw => ?h2_14_15⟩) hS ?_
    case h2_14_15 => (go_simp; first | done | with_reducible rfl)
    simp only [Act.put, List.setIfInBounds_toArray, List.set_cons_zero, List.set_cons_succ]
    refine takeAny 15 (dN := some 20) (v := ?v2_15_16) rfl rfl (by kernel_rfl) (by kernel_rfl) (by kernel_rfl) (fun _ _ _ h => h) (.inl ⟨rfl, fun w' hSw => ?h2_15_16⟩) hS ?_
    case h2_15_16 => (go_simp; first | done | with_reducible rfl)
    simp only [Act.put, List.setIfInBounds_toArray, List.set_cons_zero, List.set_cons_succ]
    refine takeAny 16 (dN := some 21) (v := ?v2_16_17) rfl rfl (by kernel_rfl) (by kernel_rfl) (by kernel_rfl) (fun _ _ _ h => h) (.inl ⟨rfl, fun w' hSw => ?h2_16_17⟩) hS ?_
    case h2_16_17 => (go_simp; first | done | with_reducible rfl)
    simp only [Act.put, List.setIfInBounds_toArray, List.set_cons_zero, List.set_cons_succ]
    refine takeAny 17 (dN := some 22) (v := ?v2_17_18) rfl rfl (by kernel_rfl) (by kernel_rfl) (by kernel_rfl) (fun _ _ _ h => h) (.inl ⟨rfl, fun w' hSw => ?h2_17_18⟩) hS ?_
    case h2_17_18 => (go_simp; first | done | with_reducible rfl)
    simp only [Act.put, List.setIfInBounds_toArray, List.set_cons_zero, List.set_cons_succ]
    refine takeAny 18 (dN := some 23) (v := ?v2_18_19) rfl rfl (by kernel_rfl) (by kernel_rfl) (by kernel_rfl) (fun _ _ _ h => h) (.inl ⟨rfl, fun w' hSw => ?h2_18_19⟩) hS ?_
    case h2_18_19 => (go_simp; first | done | with_reducible rfl)
    simp only [Act.put, List.setIfInBounds_toArray, List.set_cons_zero, List.set_cons_succ]
    refine takeAny 19 (dN := some 24) (v := ?v2_19_20) rfl rfl (by kernel_rfl) (by kernel_rfl) (by kernel_rfl) (fun _ _ _ h => h) (.inl ⟨rfl, fun w' hSw => ?h2_19_20⟩) hS ?_
    case h2_19_20 => (go_simp; first | done | with_reducible rfl)
    simp only [Act.put, List.setIfInBounds_toArray, List.set_cons_zero, List.set_cons_succ]
    refine wpAnyH_ready (rs := [20]) (by kernel_rfl) (by simp) (AllReadyH.cons rfl (fun K hK => ?_) AllReadyH.nil)
    go_simp
    go_at_call 61
    refine (sIn _ _ _ _).mono ?_
    rintro e w1_20 ⟨rfl, rfl⟩
    refine hK.out _ _ hS (fun hS => ?_)
    clear hK
    refine takeAny 21 (dN := some 26) (v := ?v2_21_22) rfl rfl (by kernel_rfl) (by kernel_rfl) (by kernel_rfl) (fun _ _ _ h => h) (.inl ⟨rfl, fun w' hSw => ?h2_21_22⟩) hS ?_
    case h2_21_22 => (go_simp; first | done | with_reducible rfl)
    simp only [Act.put, List.setIfInBounds_toArray, List.set_cons_zero, List.set_cons_succ]
    refine takeAny 22 (dN := some 4) (v := ?v2_22_23) rfl rfl (by kernel_rfl) (by kernel_rfl) (by kernel_rfl) (fun _ _ _ h => h) (.inl ⟨rfl, fun w' hSw => ?h2_22_23⟩) hS ?_
    case h2_22_23 => (go_simp; first | done | with_reducible rfl)
    simp only [Act.put, List.setIfInBounds_toArray, List.set_cons_zero, List.set_cons_succ]
    refine wpAnyH_done (by kernel_rfl) ?_ _
    go_wp2
    go_ret
    exact ⟨by rw [HH.out, b1]; rfl, c0⟩

/-- The state at the head of the reference's round. -/
def SRel (L : Lw) (g : Nat) (t : TypeId) (w wr : World) (n : Nat) : Prop := (∀ i, i < n → fineB L i = true) ∧ Below w.heap.size w wr ∧ wr.heap[g]? = some (.cells L.cells t (0, 0))
theorem SRel.next {L : Lw} {g : Nat} {t : TypeId} {w wr : World} {n : Nat} (h : SRel L g t w wr n) (hf : fineB L n = true) : SRel L g t w wr (n + 1) :=
  ⟨fun i hi => by
    by_cases e : i = n
    · subst e; exact hf
    · exact h.1 i (by omega), h.2⟩
theorem SRel.below {L : Lw} {g : Nat} {t : TypeId} {w wr w1 : World} {n : Nat} (h : SRel L g t w wr n) (hb : Below wr.heap.size wr w1) : SRel L g t w w1 n :=
  ⟨h.1, belW h.2.1 hb, blkB hb h.2.2 (blkLt h.2.2)⟩

set_option maxRecDepth 100000 in
set_option maxHeartbeats 2000000 in
theorem sOk (L : Lw) (hL : Lw.Ok L) (g : Nat) (t : TypeId) (w : World) (hg : w.heap[g]? = some (.cells L.cells t (0, 0))) :
    Calls Try.prog 27 #[.pointer (some ⟨g, 0, none⟩)] w fun e w' => e = .returned (.bool (validB L)) ∧ Below w.heap.size w w' := by
  have hL' := hL
  obtain ⟨l1, l2, l3, l4, l5⟩ := hL
  have g0 := L.get0
  have g1 := L.get1
  have hc := blkC hg
  have hlt := blkLt hg
  rcases twoways (decide (1 ≤ L.wide)) with b1 | b1
  · go_enter Try.func27, Try.ntmps27
    go_wp2
    go_ret
    exact ⟨by simp [validB, sideB, b1], Below.refl _ _⟩
  rcases twoways (decide (L.wide ≤ 10)) with b2 | b2
  · go_enter Try.func27, Try.ntmps27
    go_wp2
    go_ret
    exact ⟨by simp [validB, sideB, b2], Below.refl _ _⟩
  rcases twoways (decide (1 ≤ L.high)) with b3 | b3
  · go_enter Try.func27, Try.ntmps27
    go_wp2
    go_ret
    exact ⟨by simp [validB, sideB, b3], Below.refl _ _⟩
  rcases twoways (decide (L.high ≤ 10)) with b4 | b4
  · go_enter Try.func27, Try.ntmps27
    go_wp2
    go_ret
    exact ⟨by simp [validB, sideB, b4], Below.refl _ _⟩
  have s1 : sideB L.wide = true := by simp [sideB, b1, b2]
  have s2 : sideB L.high = true := by simp [sideB, b3, b4]
  have S1 := Lib.hid s1
  have S2 := Lib.hid s2
  clear s1 s2
  go_enter Try.func27, Try.ntmps27
  go_wp2
  clear b1 b2 b3 b4 g0 g1 hc
  go_loopw [3] (fun y wr => ∃ k : Nat, k ≤ 10 ∧ y = .int .i8 k ∧ SRel L g t w wr (k * 10)) (fun y _ => 10 - (intOf y).toNat)
  case atStart => exact ⟨0, by omega, rfl, fun i hi => by omega, Below.refl _ _, hg⟩
  case round =>
    obtain ⟨k, hk, rfl, hr⟩ := hrel
    by_cases hkt : k < 10
    · have hd : decide ((k : Int) < 10) = true := by simp; omega
      go_wp2
      go_loopw [4] (fun x wr => ∃ j : Nat, j ≤ 10 ∧ x = .int .i8 j ∧ SRel L g t w wr (k * 10 + j)) (fun x _ => 10 - (intOf x).toNat)
      case atStart => exact ⟨0, by omega, rfl, hr⟩
      case round =>
        obtain ⟨j, hj, rfl, hr⟩ := hrel
        by_cases hjt : j < 10
        · have hd2 : decide ((j : Int) < 10) = true := by simp; omega
          have hr3 := hr.2.2
          have hc := blkC hr3
          have hn : k * 10 + j < 100 := by omega
          obtain ⟨v, hv⟩ : ∃ v, v = L.c (k * 10 + j) := ⟨_, rfl⟩
          obtain ⟨v0, v1⟩ := l5 _ hn
          have g2 := L.getYX hn
          rw [← hv] at g2 v0 v1
          have HF := fineB_at L (k := k) hjt
          rw [← hv] at HF
          have HF := Lib.hid HF
          clear hv
          have b0 : decide (0 ≤ v) = true := by simp; omega
          rcases twoways (decide (v ≤ 3)) with b1 | b1
          · go_wp2
            go_ret
            exact ⟨by rw [validB_bad hn (by rw [HF.out, b1]; rfl)]; rfl, hr.2.1⟩
          · rcases twoways (v != 0) with b2 | b2
            · go_wp2
              refine ⟨?_, by simp [intOf]; omega⟩
              first | exact ⟨j + 1, by omega, by go_num, hr.next (by rw [HF.out, b1]; simp at b2; simp [b2])⟩ | ((repeat (apply Exists.intro)); exact ⟨⟨j + 1, by omega, by go_num, hr.next (by rw [HF.out, b1]; simp at b2; simp [b2])⟩, rfl⟩)
            · rcases twoways (hasB L j k) with b3 | b3
              · go_wp2_with (first | (go_at_call 48; refine (sIs L hL' (j : Int) (k : Int) g t (by omega) (by omega) (by omega) (by omega) _ hr3).mono ?_; rintro e w1 ⟨rfl, hb⟩) | go_in)
                go_ret
                exact ⟨by rw [validB_bad hn (by rw [HF.out, b3]; simp at b2; simp [b2])]; rfl, belW hr.2.1 hb⟩
              · go_wp2_with (first | (go_at_call 48; refine (sIs L hL' (j : Int) (k : Int) g t (by omega) (by omega) (by omega) (by omega) _ hr3).mono ?_; rintro e w1 ⟨rfl, hb⟩) | go_in)
                refine ⟨?_, by simp [intOf]; omega⟩
                first | exact ⟨j + 1, by omega, by go_num, (hr.below hb).next (by rw [HF.out, b1, b3]; simp)⟩ | ((repeat (apply Exists.intro)); exact ⟨⟨j + 1, by omega, by go_num, (hr.below hb).next (by rw [HF.out, b1, b3]; simp)⟩, rfl⟩)
        · go_wp2
          refine ⟨?_, by simp [intOf]; omega⟩
          first | exact ⟨k + 1, by omega, by go_num, by rw [show (k + 1) * 10 = k * 10 + j by omega]; exact hr⟩ | ((repeat (apply Exists.intro)); exact ⟨⟨k + 1, by omega, by go_num, by rw [show (k + 1) * 10 = k * 10 + j by omega]; exact hr⟩, rfl⟩)
    · go_wp2
      go_ret
      exact ⟨by rw [validB_good S1.out S2.out (fun i hi => hr.1 i (by omega))]; rfl, hr.2.1⟩

end Go.Proofs.Ytchhjdjdhlfhlaa.L
