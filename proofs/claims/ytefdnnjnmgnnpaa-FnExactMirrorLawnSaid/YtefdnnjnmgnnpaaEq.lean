/- Walks: a lawn held against itself, field by field. -/
import Derived.Test.YtefdnnjnmgnnpaaLawn
namespace Go.Proofs.Ytefdnnjnmgnnpaa.L
set_option linter.unusedSimpArgs false
set_option linter.unusedVariables false
open Go.RowKit Go.Proofs.Ytefdnnjnmgnnpaa.B

set_option maxRecDepth 100000 in
set_option maxHeartbeats 1000000 in
theorem eqA10 (c : Nat → Int) (w : World) :
    Calls Try.prog 39 #[.agg (arr .u8 10 c), .agg (arr .u8 10 c)] w fun e w' => e = .returned (.bool true) ∧ Below w.heap.size w w' := by
  go_enter Try.func39, Try.ntmps39
  go_wp2
  go_loopw [5] (fun i wr => ∃ k : Nat, k ≤ 10 ∧ i = .int .i64 k ∧ Below w.heap.size w wr ∧ wr.heap[w.heap.size]? = some (.cells (arr .u8 10 c) 23 (0, 0)) ∧ wr.heap[w.heap.size + 1]? = some (.cells (arr .u8 10 c) 23 (0, 0))) (fun i _ => 10 - (intOf i).toNat)
  case atStart => exact ⟨0, by omega, rfl, belA (belA (Below.refl _ _)), blkA (blkN rfl), blkN (by simp)⟩
  case round =>
    obtain ⟨k, hk, rfl, hB, h0, h1⟩ := hrel
    by_cases hkt : k < 10
    · have hd : decide ((k : Int) < 10) = true := by simp; omega
      have b0 : (0 : Int) ≤ k := by omega
      have b1 : (k : Int) < 10 := by omega
      have c0 := (blkC h0 k).trans (arr_get hkt)
      have c1 := (blkC h1 k).trans (arr_get hkt)
      go_wp2
      refine wp_region_held_drew (S := fun w' => Below w.heap.size w w' ∧ w'.heap[w.heap.size]? = some (.cells (arr .u8 10 c) 23 (0, 0)) ∧ w'.heap[w.heap.size + 1]? = some (.cells (arr .u8 10 c) 23 (0, 0)) ∧ w'.cell? ⟨w.heap.size, k, none⟩ = some (.int .u8 (c k)) ∧ w'.cell? ⟨w.heap.size + 1, k, none⟩ = some (.int .u8 (c k))) (by kernel_rfl) ⟨belD hB, blkD h0, blkD h1, celD c0, celD c1⟩ (fun hS => ?_)
      refine takeAny 0 (dN := some 10) (v := ?v1_0_1) rfl rfl (by kernel_rfl) (by kernel_rfl) (by kernel_rfl) (fun _ _ _ h => h) (.inl ⟨rfl, fun w' hSw => ?h1_0_1⟩) hS ?_
      case h1_0_1 => (go_simp; first | done | with_reducible rfl)
      simp only [Act.put, List.setIfInBounds_toArray, List.set_cons_zero, List.set_cons_succ]
      refine takeAny 1 (dN := some 11) (v := ?v1_1_2) rfl rfl (by kernel_rfl) (by kernel_rfl) (by kernel_rfl) (fun _ _ _ h => h) (.inl ⟨rfl, fun w' hSw => ?h1_1_2⟩) hS ?_
      case h1_1_2 => (go_simp; first | done | with_reducible rfl)
      simp only [Act.put, List.setIfInBounds_toArray, List.set_cons_zero, List.set_cons_succ]
      refine takeAny 2 (dN := some 12) (v := ?v1_2_3) rfl rfl (by kernel_rfl) (by kernel_rfl) (by kernel_rfl) (fun _ _ _ h => h) (.inl ⟨rfl, fun w' hSw => ?h1_2_3⟩) hS ?_
      case h1_2_3 => (go_simp; first | done | with_reducible rfl)
      simp only [Act.put, List.setIfInBounds_toArray, List.set_cons_zero, List.set_cons_succ]
      refine takeAny 3 (dN := some 13) (v := ?v1_3_4) rfl rfl (by kernel_rfl) (by kernel_rfl) (by kernel_rfl) (fun _ _ _ h => h) (.inl ⟨rfl, fun w' hSw => ?h1_3_4⟩) hS ?_
      case h1_3_4 => (go_simp; first | done | with_reducible rfl)
      simp only [Act.put, List.setIfInBounds_toArray, List.set_cons_zero, List.set_cons_succ]
      refine takeAny 4 (dN := some 14) (v := ?v1_4_5) rfl rfl (by kernel_rfl) (by kernel_rfl) (by kernel_rfl) (fun _ _ _ h => h) (.inl ⟨rfl, fun w' hSw => ?h1_4_5⟩) hS ?_
      case h1_4_5 => (go_simp; first | done | with_reducible rfl)
      simp only [Act.put, List.setIfInBounds_toArray, List.set_cons_zero, List.set_cons_succ]
      refine takeAny 5 (dN := some 15) (v := ?v1_5_6) rfl rfl (by kernel_rfl) (by kernel_rfl) (by kernel_rfl) (fun _ _ _ h => h) (.inl ⟨rfl, fun w' hSw => ?h1_5_6⟩) hS ?_
      case h1_5_6 => (go_simp; first | done | with_reducible rfl)
      simp only [Act.put, List.setIfInBounds_toArray, List.set_cons_zero, List.set_cons_succ]
      refine takeAny 6 (dN := some 16) (v := ?v1_6_7) rfl rfl (by kernel_rfl) (by kernel_rfl) (by kernel_rfl) (fun _ _ _ h => h) (.inl ⟨rfl, fun w' hSw => ?h1_6_7⟩) hS ?_
      case h1_6_7 => (go_simp; first | done | with_reducible rfl)
      simp only [Act.put, List.setIfInBounds_toArray, List.set_cons_zero, List.set_cons_succ]
      refine wpAnyH_done (by kernel_rfl) ?_ _
      go_wp2
      refine ⟨?_, by simp [intOf]; omega⟩
      first | exact ⟨k + 1, by omega, by go_num, belD hB, blkD h0, blkD h1⟩ | ((repeat (apply Exists.intro)); exact ⟨⟨k + 1, by omega, by go_num, belD hB, blkD h0, blkD h1⟩, rfl⟩)
    · go_wp2
      go_ret
      exact ⟨rfl, hB⟩

set_option maxRecDepth 100000 in
set_option maxHeartbeats 1000000 in
theorem eqA100 (c : Nat → Int) (w : World) :
    Calls Try.prog 26 #[.agg (arr .u8 100 c), .agg (arr .u8 100 c)] w fun e w' => e = .returned (.bool true) ∧ Below w.heap.size w w' := by
  go_enter Try.func26, Try.ntmps26
  go_wp2
  go_loopw [5] (fun i wr => ∃ k : Nat, k ≤ 10 ∧ i = .int .i64 k ∧ Below w.heap.size w wr ∧ wr.heap[w.heap.size]? = some (.cells (arr .u8 100 c) 24 (0, 0)) ∧ wr.heap[w.heap.size + 1]? = some (.cells (arr .u8 100 c) 24 (0, 0))) (fun i _ => 10 - (intOf i).toNat)
  case atStart => exact ⟨0, by omega, rfl, belA (belA (Below.refl _ _)), blkA (blkN rfl), blkN (by simp)⟩
  case round =>
    obtain ⟨k, hk, rfl, hB, h0, h1⟩ := hrel
    by_cases hkt : k < 10
    · have hd : decide ((k : Int) < 10) = true := by simp; omega
      have b0 : (0 : Int) ≤ k := by omega
      have b1 : (k : Int) < 10 := by omega
      go_wp2
      refine wp_region_held_drew (S := fun w' => Below w.heap.size w w' ∧ w'.heap[w.heap.size]? = some (.cells (arr .u8 100 c) 24 (0, 0)) ∧ w'.heap[w.heap.size + 1]? = some (.cells (arr .u8 100 c) 24 (0, 0))) (by kernel_rfl) ⟨belD hB, blkD h0, blkD h1⟩ (fun hS => ?_)
      refine takeAny 0 (dN := some 10) (v := ?v2_0_1) rfl rfl (by kernel_rfl) (by kernel_rfl) (by kernel_rfl) (fun _ _ _ h => h) (.inl ⟨rfl, fun w' hSw => ?h2_0_1⟩) hS ?_
      case h2_0_1 => (go_simp; first | done | with_reducible rfl)
      simp only [Act.put, List.setIfInBounds_toArray, List.set_cons_zero, List.set_cons_succ]
      refine takeAny 1 (dN := some 11) (v := ?v2_1_2) rfl rfl (by kernel_rfl) (by kernel_rfl) (by kernel_rfl) (fun _ _ _ h => h) (.inl ⟨rfl, fun w' hSw => ?h2_1_2⟩) hS ?_
      case h2_1_2 => (go_simp; first | done | with_reducible rfl)
      simp only [Act.put, List.setIfInBounds_toArray, List.set_cons_zero, List.set_cons_succ]
      refine takeMid 2 rfl rfl (by kernel_rfl) (by kernel_rfl) (by kernel_rfl) (fun _ _ _ h => h) rfl rfl rfl (kd := .u8) (m := 10) (c := fun j => c (k * 10 + j)) Try.underlying23 rfl (fun w h => h.2.1) (fun i hi => arr_get (by omega)) size10 hS ?_
      simp only [Act.put, List.setIfInBounds_toArray, List.set_cons_zero, List.set_cons_succ]
      refine takeAny 3 (dN := some 13) (v := ?v2_3_4) rfl rfl (by kernel_rfl) (by kernel_rfl) (by kernel_rfl) (fun _ _ _ h => h) (.inl ⟨rfl, fun w' hSw => ?h2_3_4⟩) hS ?_
      case h2_3_4 => (go_simp; first | done | with_reducible rfl)
      simp only [Act.put, List.setIfInBounds_toArray, List.set_cons_zero, List.set_cons_succ]
      refine takeAny 4 (dN := some 14) (v := ?v2_4_5) rfl rfl (by kernel_rfl) (by kernel_rfl) (by kernel_rfl) (fun _ _ _ h => h) (.inl ⟨rfl, fun w' hSw => ?h2_4_5⟩) hS ?_
      case h2_4_5 => (go_simp; first | done | with_reducible rfl)
      simp only [Act.put, List.setIfInBounds_toArray, List.set_cons_zero, List.set_cons_succ]
      refine takeMid 5 rfl rfl (by kernel_rfl) (by kernel_rfl) (by kernel_rfl) (fun _ _ _ h => h) rfl rfl rfl (kd := .u8) (m := 10) (c := fun j => c (k * 10 + j)) Try.underlying23 rfl (fun w h => h.2.2) (fun i hi => arr_get (by omega)) size10 hS ?_
      simp only [Act.put, List.setIfInBounds_toArray, List.set_cons_zero, List.set_cons_succ]
      refine wpAnyH_ready (rs := [6]) (by kernel_rfl) (by simp) (AllReadyH.cons rfl (fun K hK => ?_) AllReadyH.nil)
      go_simp
      go_at_call 39
      refine (eqA10 _ _).mono ?_
      rintro e w4_6 ⟨rfl, hb⟩
      refine hK.out _ _ ⟨belW hS.1 hb, blkB hb hS.2.1 (blkLt hS.2.1), blkB hb hS.2.2 (blkLt hS.2.2)⟩ (fun hS => ?_)
      clear hb hK
      refine takeAny 7 (dN := some 17) (v := ?v2_7_8) rfl rfl (by kernel_rfl) (by kernel_rfl) (by kernel_rfl) (fun _ _ _ h => h) (.inl ⟨rfl, fun w' hSw => ?h2_7_8⟩) hS ?_
      case h2_7_8 => (go_simp; first | done | with_reducible rfl)
      simp only [Act.put, List.setIfInBounds_toArray, List.set_cons_zero, List.set_cons_succ]
      refine wpAnyH_done (by kernel_rfl) ?_ _
      go_wp2
      refine ⟨?_, by simp [intOf]; omega⟩
      first | exact ⟨k + 1, by omega, by go_num, hS⟩ | ((repeat (apply Exists.intro)); exact ⟨⟨k + 1, by omega, by go_num, hS⟩, rfl⟩)
    · go_wp2
      go_ret
      exact ⟨rfl, hB⟩

set_option maxRecDepth 100000 in
set_option maxHeartbeats 1000000 in
theorem eqLawn (L : Lw) (w : World) :
    Calls Try.prog 12 #[.agg L.cells, .agg L.cells] w fun e w' => e = .returned (.bool true) ∧ Below w.heap.size w w' := by
  have g0 := L.get0
  have g1 := L.get1
  go_enter Try.func12, Try.ntmps12
  go_wp2_with (first | (refine loadMid 16 rfl rfl rfl rfl (kd := .u8) (m := 100) (c := L.c) Try.underlying24 rfl (blkA (blkN rfl)) (fun i hi => L.get2 hi) (zero_of_info zero100).2 ?_) | (refine loadMid 18 rfl rfl rfl rfl (kd := .u8) (m := 100) (c := L.c) Try.underlying24 rfl (blkN (by simp)) (fun i hi => L.get2 hi) (zero_of_info zero100).2 ?_) | (go_at_call 26; refine (eqA100 _ _).mono ?_; rintro e w1 ⟨rfl, hb⟩))
  go_ret
  exact ⟨rfl, belW (belA (belA (Below.refl _ _))) hb⟩
end Go.Proofs.Ytefdnnjnmgnnpaa.L
