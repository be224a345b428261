/- Walks: the law of ReadSides. -/
import Derived.Test.YtemhnmbbniminaaDoorSidesP
namespace Go.Proofs.YtemhnmbbniminaaDoor.QV
set_option linter.unusedSimpArgs false
set_option linter.unusedVariables false
open Go.RowKit Go.Proofs.YtemhnmbbniminaaDoor.B Go.Proofs.YtemhnmbbniminaaDoorW.PrintWords Go.Proofs.YtemhnmbbniminaaDoorW.PrintLast Go.Proofs.YtemhnmbbniminaaDoorW.PrintMore

set_option maxRecDepth 100000 in
set_option maxHeartbeats 1000000 in
theorem eqSides (c : Nat → Int) (w : World) :
    Calls Tryd.prog 17 #[.agg (arr .i64 5 c), .agg (arr .i64 5 c)] w fun e w' => e = .returned (.bool true) ∧ Below w.heap.size w w' := by
  go_enter Tryd.func17, Tryd.ntmps17
  go_wp2
  go_loopw [5] (fun i wr => ∃ k : Nat, k ≤ 5 ∧ i = .int .i64 k ∧ Below w.heap.size w wr ∧ wr.heap[w.heap.size]? = some (.cells (arr .i64 5 c) 24 (0, 0)) ∧ wr.heap[w.heap.size + 1]? = some (.cells (arr .i64 5 c) 24 (0, 0))) (fun i _ => 5 - (intOf i).toNat)
  case atStart => exact ⟨0, by omega, rfl, belA (belA (Below.refl _ _)), blkA (blkN rfl), blkN (by simp)⟩
  case round =>
    obtain ⟨k, hk, rfl, hB, h0, h1⟩ := hrel
    by_cases hkt : k < 5
    · have hd : decide ((k : Int) < 5) = true := by simp; omega
      have b0 : (0 : Int) ≤ k := by omega
      have b1 : (k : Int) < 5 := by omega
      have c0 := (blkC h0 k).trans (arr_get hkt)
      have c1 := (blkC h1 k).trans (arr_get hkt)
      go_wp2
      refine wp_region_held_drew (S := fun w' => Below w.heap.size w w' ∧ w'.heap[w.heap.size]? = some (.cells (arr .i64 5 c) 24 (0, 0)) ∧ w'.heap[w.heap.size + 1]? = some (.cells (arr .i64 5 c) 24 (0, 0)) ∧ w'.cell? ⟨w.heap.size, k, none⟩ = some (.int .i64 (c k)) ∧ w'.cell? ⟨w.heap.size + 1, k, none⟩ = some (.int .i64 (c k))) (by kernel_rfl) ⟨belD hB, blkD h0, blkD h1, celD c0, celD c1⟩ (fun hS => ?_)
      refine takeAny 0 (dN := some 10) (v := ?v1_0_1) rfl rfl (by kernel_rfl) (by kernel_rfl) (by kernel_rfl) (fun _ _ _ h => h) (.inl ⟨rfl, fun w' hSw => ?h1_0_1⟩) hS ?_
      case h1_0_1 => (go_simp; first | done | with_reducible rfl)
      simp only [Act.put, List.setIfInBounds_toArray, List.set_cons_zero, List.set_cons_succ]
      refine takeAny 1 (dN := some 11) (v := ?v1_1_2) rfl rfl (by kernel_rfl) (by kernel_rfl) (by kernel_rfl) (fun _ _ _ h => h) (.inl ⟨rfl, fun w' hSw => ?h1_1_2⟩) hS ?_
      case h1_1_2 => (go_simp; first | done | with_reducible rfl)
      simp only [Act.put, List.setIfInBounds_toArray, List.set_cons_zero, List.set_cons_succ]
      refine takeAny 2 (dN := some 12) (v := ?v1_2_3) rfl rfl (by kernel_rfl) (by kernel_rfl) (by kernel_rfl) (fun _ _ _ h => h) (.inl ⟨rfl, fun w' hSw => ?h1_2_3⟩) hS ?_
      case h1_2_3 => (go_simp; first | done | with_reducible rfl)
      simp only [Act.put, List.setIfInBounds_toArray, List.set_cons_zero, List.set_cons_succ]
      refine takeAny 3 (dN := some 13) (v := ?v1_3_4) rfl rfl (by kernel_rfl) (by kernel_rfl) (by kernel_rfl) (fun _ _ _ h => h) (.inl ⟨rfl, fun w' hSw => ?h1_3_4⟩) hS ?_
      case h1_3_4 => (go_simp; first | done | with_reducible rfl)
      simp only [Act.put, List.setIfInBounds_toArray, List.set_cons_zero, List.set_cons_succ]
      refine takeAny 4 (dN := some 14) (v := ?v1_4_5) rfl rfl (by kernel_rfl) (by kernel_rfl) (by kernel_rfl) (fun _ _ _ h => h) (.inl ⟨rfl, fun w' hSw => ?h1_4_5⟩) hS ?_
      case h1_4_5 => (go_simp; first | done | with_reducible rfl)
      simp only [Act.put, List.setIfInBounds_toArray, List.set_cons_zero, List.set_cons_succ]
      refine takeAny 5 (dN := some 15) (v := ?v1_5_6) rfl rfl (by kernel_rfl) (by kernel_rfl) (by kernel_rfl) (fun _ _ _ h => h) (.inl ⟨rfl, fun w' hSw => ?h1_5_6⟩) hS ?_
      case h1_5_6 => (go_simp; first | done | with_reducible rfl)
      simp only [Act.put, List.setIfInBounds_toArray, List.set_cons_zero, List.set_cons_succ]
      refine takeAny 6 (dN := some 16) (v := ?v1_6_7) rfl rfl (by kernel_rfl) (by kernel_rfl) (by kernel_rfl) (fun _ _ _ h => h) (.inl ⟨rfl, fun w' hSw => ?h1_6_7⟩) hS ?_
      case h1_6_7 => (go_simp; first | done | with_reducible rfl)
      simp only [Act.put, List.setIfInBounds_toArray, List.set_cons_zero, List.set_cons_succ]
      refine wpAnyH_done (by kernel_rfl) ?_ _
      go_wp2
      refine ⟨?_, by simp [intOf]; omega⟩
      first | exact ⟨k + 1, by omega, by go_num, belD hB, blkD h0, blkD h1⟩ | ((repeat (apply Exists.intro)); exact ⟨⟨k + 1, by omega, by go_num, belD hB, blkD h0, blkD h1⟩, rfl⟩)
    · have hd : decide ((k : Int) < 5) = false := by simp; omega
      go_wp2
      go_ret
      exact ⟨rfl, hB⟩

set_option maxRecDepth 100000 in
set_option maxHeartbeats 2000000 in
theorem lawReadSides (t : ByteArray) (w : World) (hG : GL w) (hT : TB w) :
    Calls Tryd.prog 5 #[.string t] w fun e w' => e = .returned (.bool true) ∧ Below w.heap.size w w' := by
  by_cases hbig : (t.size : Int) > 1048576
  · have d0 : decide (1048576 < (t.size : Int)) = true := decide_eq_true hbig
    have d1 : decide (1048576 < t.size) = true := decide_eq_true (by omega)
    clear hbig
    go_enter Tryd.func5, Tryd.ntmps5
    go_wp2
    go_ret
    exact ⟨rfl, Below.refl _ _⟩
  · have d0 : decide (1048576 < (t.size : Int)) = false := decide_eq_false hbig
    have d1 : decide (1048576 < t.size) = false := decide_eq_false (by omega)
    obtain ⟨ws, ⟨kd, h1⟩, h2, h3, h4, h5⟩ := words_of t (by omega)
    have HS := Aside0.mk (fun w => sReadSides t ws kd h1 h5 w)
    have HI := Aside0.mk (fun w hG hT => iReadSides t ws h2 h3 h4 h5 w hG hT)
    have HG := Aside0.mk hG
    have HT := Aside0.mk hT
    clear hbig h1 h2 h3 h4 h5 hG hT
    generalize resC ws = c at HS HI
    generalize resQ ws = q at HS HI
    go_enter Tryd.func5, Tryd.ntmps5
    go_wp2_with (first | (go_at_call 15; refine (HS.out _).mono ?_; rintro e w1 ⟨rfl, hb1⟩; have n1 : (w1.alloc (.cells #[.int .i64 0, .int .i64 0, .int .i64 0, .int .i64 0, .int .i64 0] 24)).heap[w1.heap.size]? = some (.cells (arr .i64 5 (fun _ => 0)) 24 (0, 0)) := by rw [z5]; exact blkN rfl) | (go_at_call 16; refine (HI.out _ (gl_any HG.out hB2) (tb_any HT.out hB2)).mono ?_; rintro e w3 ⟨rfl, hb3⟩; have hB3 := belW hB2 hb3; have g3 := blkB hb3 g2 (blkLt g2); have n3 : (w3.alloc (.cells #[.int .i64 0, .int .i64 0, .int .i64 0, .int .i64 0, .int .i64 0] 24)).heap[w3.heap.size]? = some (.cells (arr .i64 5 (fun _ => 0)) 24 (0, 0)) := by rw [z5]; exact blkN rfl) | (refine storeRow (g := w1.heap.size) (c' := arr .i64 5 c) rfl rfl rfl rfl rfl n1 (by rw [arr_size]; exact size5) (by simp only [arr_size]) (arr_one _ _ _) ?_; intro w2 g2 j2 j3 j4; have hB2 := belT (belA hb1) j3 hb1.size; clear j2 j3 j4) | (refine storeRow (g := w3.heap.size) (c' := arr .i64 5 c) rfl rfl rfl rfl rfl n3 (by rw [arr_size]; exact size5) (by simp only [arr_size]) (arr_one _ _ _) ?_; intro w4 g4 j2 j3 j4; have hB4 := belT (belA hB3) j3 hB3.size; have g5 := (j2 _ (Nat.ne_of_lt (blkLt g3))).trans (blkA g3); clear j2 j3 j4) | ((with_reducible refine atDst 20 rfl ?_); refine loadRow 20 rfl rfl rfl rfl Tryd.underlying24 rfl g4 (by rw [arr_size]; exact size5) ?_) | ((with_reducible refine atDst 21 rfl ?_); refine loadRow 21 rfl rfl rfl rfl Tryd.underlying24 rfl g5 (by rw [arr_size]; exact size5) ?_) | (go_at_call 17; refine (eqSides _ _).mono ?_; rintro e w6 ⟨rfl, hb6⟩))
    go_ret
    exact ⟨rfl, belW hB4 hb6⟩
end Go.Proofs.YtemhnmbbniminaaDoor.QV
