/- Walks: the kind of a cell. -/
import Derived.Test.YtchhjdjdhlfhlaaCells
namespace Go.Proofs.Ytchhjdjdhlfhlaa.L
set_option linter.unusedSimpArgs false
set_option linter.unusedVariables false
open Go.RowKit Go.Proofs.Ytchhjdjdhlfhlaa.B

set_option maxRecDepth 100000 in
set_option maxHeartbeats 1000000 in
theorem kind (L : Lw) (hL : Lw.Ok L) (x y : Nat) (hx : x < 10) (hy : y < 10) (w : World) :
    Calls Try.prog 55 #[.agg L.cells, .agg #[.int .i8 x, .int .i8 y]] w fun e w' => e = .returned (.int .i64 (L.c (y * 10 + x))) ∧ Below w.heap.size w w' := by
  obtain ⟨v0, v1⟩ := hL.2.2.2.2 (y * 10 + x) (by omega)
  obtain ⟨v, hv⟩ : ∃ v, v = L.c (y * 10 + x) := ⟨_, rfl⟩
  have g2 := L.getYX (y := y) (x := x) (by omega)
  rw [← hv] at g2 v0 v1 ⊢
  clear hv hL
  obtain ⟨W0, hW0⟩ : ∃ W0, W0 = ((w.alloc (.cells L.cells 30)).alloc (.cells #[.int .i8 x, .int .i8 y] 44)).drew := ⟨_, rfl⟩
  have c0 : Below w.heap.size w W0 := by rw [hW0]; exact belD (belA (belA (Below.refl _ _)))
  have cg : W0.heap[w.heap.size]? = some (.cells L.cells 30 (0, 0)) := by rw [hW0]; exact blkD (blkA (blkN rfl))
  have cn : W0.heap[w.heap.size + 1]? = some (.cells #[.int .i8 x, .int .i8 y] 44 (0, 0)) := by rw [hW0]; exact blkD (blkN (by simp))
  have c1 : W0.cell? ⟨w.heap.size + 1, 0, none⟩ = some (.int .i8 x) := (blkC cn 0).trans rfl
  have c2 : W0.cell? ⟨w.heap.size + 1, 1, none⟩ = some (.int .i8 y) := (blkC cn 1).trans rfl
  have c3 : W0.cell? ⟨w.heap.size, 2 + y * 10 + x, none⟩ = some (.int .u8 v) := (blkC cg _).trans g2
  clear cg cn g2
  rw [hW0] at c0 c1 c2 c3
  clear hW0
  have b1 : (0 : Int) ≤ x := by omega
  have b2 : (x : Int) < 10 := by omega
  have b3 : (0 : Int) ≤ y := by omega
  have b4 : (y : Int) < 10 := by omega
  have x1 : IntKind.i64.wrap v = v := IntWalk.i64_in _ (by omega)
  go_enter Try.func55, Try.ntmps55
  go_wp2
  refine wp_region_held_drew (S := fun w' => Below w.heap.size w w' ∧ w'.cell? ⟨w.heap.size + 1, 0, none⟩ = some (.int .i8 x) ∧ w'.cell? ⟨w.heap.size + 1, 1, none⟩ = some (.int .i8 y) ∧ w'.cell? ⟨w.heap.size, 2 + y * 10 + x, none⟩ = some (.int .u8 v)) (by kernel_rfl) ⟨c0, c1, c2, c3⟩ (fun hS => ?_)
  refine takeAny 0 (dN := some 5) (v := ?v1_0_1) rfl rfl (by kernel_rfl) (by kernel_rfl) (by kernel_rfl) (fun _ _ _ h => h) (.inl ⟨rfl, fun w' hSw => ?h1_0_1⟩) hS ?_
  case h1_0_1 => (go_simp; first | done | with_reducible rfl)
  simp only [Act.put, List.setIfInBounds_toArray, List.set_cons_zero, List.set_cons_succ]
  refine takeAny 1 (dN := some 6) (v := ?v1_1_2) rfl rfl (by kernel_rfl) (by kernel_rfl) (by kernel_rfl) (fun _ _ _ h => h) (.inl ⟨rfl, fun w' hSw => ?h1_1_2⟩) hS ?_
  case h1_1_2 => (go_simp; first | done | with_reducible rfl)
  simp only [Act.put, List.setIfInBounds_toArray, List.set_cons_zero, List.set_cons_succ]
  refine takeAny 2 (dN := some 7) (v := ?v1_2_3) rfl rfl (by kernel_rfl) (by kernel_rfl) (by kernel_rfl) (fun _ _ _ h => h) (.inl ⟨rfl, fun w' hSw => ?h1_2_3⟩) hS ?_
  case h1_2_3 => (go_simp; first | done | with_reducible rfl)
  simp only [Act.put, List.setIfInBounds_toArray, List.set_cons_zero, List.set_cons_succ]
  refine takeAny 3 (dN := some 8) (v := ?v1_3_4) rfl rfl (by kernel_rfl) (by kernel_rfl) (by kernel_rfl) (fun _ _ _ h => h) (.inl ⟨rfl, fun w' hSw => ?h1_3_4⟩) hS ?_
  case h1_3_4 => (go_simp; first | done | with_reducible rfl)
  simp only [Act.put, List.setIfInBounds_toArray, List.set_cons_zero, List.set_cons_succ]
  refine takeAny 4 (dN := some 9) (v := ?v1_4_5) rfl rfl (by kernel_rfl) (by kernel_rfl) (by kernel_rfl) (fun _ _ _ h => h) (.inl ⟨rfl, fun w' hSw => ?h1_4_5⟩) hS ?_
  case h1_4_5 => (go_simp; first | done | with_reducible rfl)
  simp only [Act.put, List.setIfInBounds_toArray, List.set_cons_zero, List.set_cons_succ]
  refine takeAny 5 (dN := some 10) (v := ?v1_5_6) rfl rfl (by kernel_rfl) (by kernel_rfl) (by kernel_rfl) (fun _ _ _ h => h) (.inl ⟨rfl, fun w' hSw => ?h1_5_6⟩) hS ?_
  case h1_5_6 => (go_simp; first | done | with_reducible rfl)
  simp only [Act.put, List.setIfInBounds_toArray, List.set_cons_zero, List.set_cons_succ]
  refine takeAny 6 (dN := some 11) (v := ?v1_6_7) rfl rfl (by kernel_rfl) (by kernel_rfl) (by kernel_rfl) (fun _ _ _ h => h) (.inl ⟨rfl, fun w' hSw => ?h1_6_7⟩) hS ?_
  case h1_6_7 => (go_simp; first | done | with_reducible rfl)
  simp only [Act.put, List.setIfInBounds_toArray, List.set_cons_zero, List.set_cons_succ]
  refine takeAny 7 (dN := some 12) (v := ?v1_7_8) rfl rfl (by kernel_rfl) (by kernel_rfl) (by kernel_rfl) (fun _ _ _ h => h) (.inl ⟨rfl, fun w' hSw => ?h1_7_8⟩) hS ?_
  case h1_7_8 => (go_simp; first | done | with_reducible rfl)
  simp only [Act.put, List.setIfInBounds_toArray, List.set_cons_zero, List.set_cons_succ]
  refine takeAny 8 (dN := some 13) (v := ?v1_8_9) rfl rfl (by kernel_rfl) (by kernel_rfl) (by kernel_rfl) (fun _ _ _ h => h) (.inl ⟨rfl, fun w' hSw => ?h1_8_9⟩) hS ?_
  case h1_8_9 => (go_simp; first | done | with_reducible rfl)
  simp only [Act.put, List.setIfInBounds_toArray, List.set_cons_zero, List.set_cons_succ]
  refine takeAny 9 (dN := some 4) (v := ?v1_9_10) rfl rfl (by kernel_rfl) (by kernel_rfl) (by kernel_rfl) (fun _ _ _ h => h) (.inl ⟨rfl, fun w' hSw => ?h1_9_10⟩) hS ?_
  case h1_9_10 => (go_simp; first | done | with_reducible rfl)
  simp only [Act.put, List.setIfInBounds_toArray, List.set_cons_zero, List.set_cons_succ]
  refine wpAnyH_done (by kernel_rfl) ?_ _
  go_wp2
  go_ret
  exact ⟨rfl, c0⟩

set_option maxRecDepth 100000 in
set_option maxHeartbeats 1000000 in
theorem sAt (L : Lw) (hL : Lw.Ok L) (x y : Nat) (hx : x < 10) (hy : y < 10) (g : Nat) (t : TypeId) (w : World) (hg : w.heap[g]? = some (.cells L.cells t (0, 0))) :
    Calls Try.prog 49 #[.pointer (some ⟨g, 0, none⟩), .agg #[.int .i8 x, .int .i8 y]] w fun e w' => e = .returned (.int .i64 (L.c (y * 10 + x))) ∧ Below w.heap.size w w' := by
  obtain ⟨v0, v1⟩ := hL.2.2.2.2 (y * 10 + x) (by omega)
  obtain ⟨v, hv⟩ : ∃ v, v = L.c (y * 10 + x) := ⟨_, rfl⟩
  have g2 := L.getYX (y := y) (x := x) (by omega)
  rw [← hv] at g2 v0 v1 ⊢
  clear hv hL
  have hlt := blkLt hg
  obtain ⟨W0, hW0⟩ : ∃ W0, W0 = (w.alloc (.cells #[.int .i8 x, .int .i8 y] 44)).drew := ⟨_, rfl⟩
  have c0 : Below w.heap.size w W0 := by rw [hW0]; exact belD (belA (Below.refl _ _))
  have cg : W0.heap[g]? = some (.cells L.cells t (0, 0)) := by rw [hW0]; exact blkD (blkA hg)
  have cn : W0.heap[w.heap.size]? = some (.cells #[.int .i8 x, .int .i8 y] 44 (0, 0)) := by rw [hW0]; exact blkD (blkN (by simp))
  have c1 : W0.cell? ⟨w.heap.size, 0, none⟩ = some (.int .i8 x) := (blkC cn 0).trans rfl
  have c2 : W0.cell? ⟨w.heap.size, 1, none⟩ = some (.int .i8 y) := (blkC cn 1).trans rfl
  have c3 : W0.cell? ⟨g, 2 + y * 10 + x, none⟩ = some (.int .u8 v) := (blkC cg _).trans g2
  clear cg cn g2
  rw [hW0] at c0 c1 c2 c3
  clear hW0
  have b1 : (0 : Int) ≤ x := by omega
  have b2 : (x : Int) < 10 := by omega
  have b3 : (0 : Int) ≤ y := by omega
  have b4 : (y : Int) < 10 := by omega
  have x1 : IntKind.i64.wrap v = v := IntWalk.i64_in _ (by omega)
  go_enter Try.func49, Try.ntmps49
  go_wp2
  refine wp_region_held_drew (S := fun w' => Below w.heap.size w w' ∧ w'.cell? ⟨w.heap.size, 0, none⟩ = some (.int .i8 x) ∧ w'.cell? ⟨w.heap.size, 1, none⟩ = some (.int .i8 y) ∧ w'.cell? ⟨g, 2 + y * 10 + x, none⟩ = some (.int .u8 v)) (by kernel_rfl) ⟨c0, c1, c2, c3⟩ (fun hS => ?_)
  refine takeAny 0 (dN := some 5) (v := ?v2_0_1) rfl rfl (by kernel_rfl) (by kernel_rfl) (by kernel_rfl) (fun _ _ _ h => h) (.inl ⟨rfl, fun w' hSw => ?h2_0_1⟩) hS ?_
  case h2_0_1 => (go_simp; first | done | with_reducible rfl)
  simp only [Act.put, List.setIfInBounds_toArray, List.set_cons_zero, List.set_cons_succ]
  refine takeAny 1 (dN := some 6) (v := ?v2_1_2) rfl rfl (by kernel_rfl) (by kernel_rfl) (by kernel_rfl) (fun _ _ _ h => h) (.inl ⟨rfl, fun w' hSw => ?h2_1_2⟩) hS ?_
  case h2_1_2 => (go_simp; first | done | with_reducible rfl)
  simp only [Act.put, List.setIfInBounds_toArray, List.set_cons_zero, List.set_cons_succ]
  refine takeAny 2 (dN := some 7) (v := ?v2_2_3) rfl rfl (by kernel_rfl) (by kernel_rfl) (by kernel_rfl) (fun _ _ _ h => h) (.inl ⟨rfl, fun w' hSw => ?h2_2_3⟩) hS ?_
  case h2_2_3 => (go_simp; first | done | with_reducible rfl)
  simp only [Act.put, List.setIfInBounds_toArray, List.set_cons_zero, List.set_cons_succ]
  refine takeAny 3 (dN := some 8) (v := ?v2_3_4) rfl rfl (by kernel_rfl) (by kernel_rfl) (by kernel_rfl) (fun _ _ _ h => h) (.inl ⟨rfl, fun w' hSw => ?h2_3_4⟩) hS ?_
  case h2_3_4 => (go_simp; first | done | with_reducible rfl)
  simp only [Act.put, List.setIfInBounds_toArray, List.set_cons_zero, List.set_cons_succ]
  refine takeAny 4 (dN := some 9) (v := ?v2_4_5) rfl rfl (by kernel_rfl) (by kernel_rfl) (by kernel_rfl) (fun _ _ _ h => h) (.inl ⟨rfl, fun w' hSw => ?h2_4_5⟩) hS ?_
  case h2_4_5 => (go_simp; first | done | with_reducible rfl)
  simp only [Act.put, List.setIfInBounds_toArray, List.set_cons_zero, List.set_cons_succ]
  refine takeAny 5 (dN := some 10) (v := ?v2_5_6) rfl rfl (by kernel_rfl) (by kernel_rfl) (by kernel_rfl) (fun _ _ _ h => h) (.inl ⟨rfl, fun w' hSw => ?h2_5_6⟩) hS ?_
  case h2_5_6 => (go_simp; first | done | with_reducible rfl)
  simp only [Act.put, List.setIfInBounds_toArray, List.set_cons_zero, List.set_cons_succ]
  refine takeAny 6 (dN := some 11) (v := ?v2_6_7) rfl rfl (by kernel_rfl) (by kernel_rfl) (by kernel_rfl) (fun _ _ _ h => h) (.inl ⟨rfl, fun w' hSw => ?h2_6_7⟩) hS ?_
  case h2_6_7 => (go_simp; first | done | with_reducible rfl)
  simp only [Act.put, List.setIfInBounds_toArray, List.set_cons_zero, List.set_cons_succ]
  refine takeAny 7 (dN := some 12) (v := ?v2_7_8) rfl rfl (by kernel_rfl) (by kernel_rfl) (by kernel_rfl) (fun _ _ _ h => h) (.inl ⟨rfl, fun w' hSw => ?h2_7_8⟩) hS ?_
  case h2_7_8 => (go_simp; first | done | with_reducible rfl)
  simp only [Act.put, List.setIfInBounds_toArray, List.set_cons_zero, List.set_cons_succ]
  refine takeAny 8 (dN := some 13) (v := ?v2_8_9) rfl rfl (by kernel_rfl) (by kernel_rfl) (by kernel_rfl) (fun _ _ _ h => h) (.inl ⟨rfl, fun w' hSw => ?h2_8_9⟩) hS ?_
  case h2_8_9 => (go_simp; first | done | with_reducible rfl)
  simp only [Act.put, List.setIfInBounds_toArray, List.set_cons_zero, List.set_cons_succ]
  refine takeAny 9 (dN := some 14) (v := ?v2_9_10) rfl rfl (by kernel_rfl) (by kernel_rfl) (by kernel_rfl) (fun _ _ _ h => h) (.inl ⟨rfl, fun w' hSw => ?h2_9_10⟩) hS ?_
  case h2_9_10 => (go_simp; first | done | with_reducible rfl)
  simp only [Act.put, List.setIfInBounds_toArray, List.set_cons_zero, List.set_cons_succ]
  refine takeAny 10 (dN := some 15) (v := ?v2_10_11) rfl rfl (by kernel_rfl) (by kernel_rfl) (by kernel_rfl) (fun _ _ _ h => h) (.inl ⟨rfl, fun w' hSw => ?h2_10_11⟩) hS ?_
  case h2_10_11 => (go_simp; first | done | with_reducible rfl)
  simp only [Act.put, List.setIfInBounds_toArray, List.set_cons_zero, List.set_cons_succ]
  refine takeAny 11 (dN := some 4) (v := ?v2_11_12) rfl rfl (by kernel_rfl) (by kernel_rfl) (by kernel_rfl) (fun _ _ _ h => h) (.inl ⟨rfl, fun w' hSw => ?h2_11_12⟩) hS ?_
  case h2_11_12 => (go_simp; first | done | with_reducible rfl)
  simp only [Act.put, List.setIfInBounds_toArray, List.set_cons_zero, List.set_cons_succ]
  refine wpAnyH_done (by kernel_rfl) ?_ _
  go_wp2
  go_ret
  exact ⟨rfl, c0⟩

set_option maxHeartbeats 1000000 in
theorem sTold (L : Lw) (hL : Lw.Ok L) (f : Bool) (g : Nat) (t : TypeId) (w : World) (hg : w.heap[g]? = some (.cells L.cells t (0, 0))) :
    Calls Try.prog 50 #[.pointer (some ⟨g, 0, none⟩), .bool f] w fun e w' => e = .returned (.int .i64 (codeB L f)) ∧ Below w.heap.size w w' := by
  have hv := sOk L hL g t w hg
  rcases twoways (validB L) with b | b
  · rw [b] at hv
    go_enter Try.func50, Try.ntmps50
    go_wp2_with (first | (go_at_call 27; refine hv.mono ?_; rintro e w1 ⟨rfl, hb⟩))
    go_ret
    exact ⟨by rw [codeB, b]; rfl, hb⟩
  · rw [b] at hv
    cases f
    · go_enter Try.func50, Try.ntmps50
      go_wp2_with (first | (go_at_call 27; refine hv.mono ?_; rintro e w1 ⟨rfl, hb⟩))
      go_ret
      exact ⟨by rw [codeB, b]; rfl, hb⟩
    · go_enter Try.func50, Try.ntmps50
      go_wp2_with (first | (go_at_call 27; refine hv.mono ?_; rintro e w1 ⟨rfl, hb⟩))
      go_ret
      exact ⟨by rw [codeB, b]; rfl, hb⟩
end Go.Proofs.Ytchhjdjdhlfhlaa.L
