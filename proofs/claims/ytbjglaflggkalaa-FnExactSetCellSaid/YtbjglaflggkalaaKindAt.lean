/- Walks: KindAt, the program's and the reference's, and the law. -/
import Derived.Test.YtbjglaflggkalaaKind
namespace Go.Proofs.Ytbjglaflggkalaa.L
set_option linter.unusedSimpArgs false
set_option linter.unusedVariables false
open Go.RowKit Go.Proofs.Ytbjglaflggkalaa.B

/-- A cell of a valid lawn lies within ten by ten. -/
theorem cell_in {L : Lw} {x y : Int} (hv : validB L = true) (hh : hasB L x y = true) : ∃ i j : Nat, x = i ∧ y = j ∧ i < 10 ∧ j < 10 := by
  simp only [validB, sideB, hasB, Bool.and_eq_true, decide_eq_true_eq] at hv hh
  exact ⟨x.toNat, y.toNat, by omega, by omega, by omega, by omega⟩
/-- What KindAt returns first. -/
def kindB (L : Lw) (x y : Int) : Int := if validB L && hasB L x y then L.c (y.toNat * 10 + x.toNat) else 0

theorem kindB_no {L : Lw} {x y : Int} (h : codeB L (hasB L x y) ≠ 0) : kindB L x y = 0 := by
  unfold kindB codeB at *
  cases hv : validB L <;> cases hh : hasB L x y <;> simp_all
theorem codeB_ok {L : Lw} {f : Bool} (h : codeB L f = 0) : validB L = true ∧ f = true := by
  unfold codeB at h
  cases hv : validB L <;> cases f <;> simp_all
theorem codeB_cases (L : Lw) (f : Bool) : codeB L f = 0 ∨ codeB L f = 1 ∨ codeB L f = 2 := by
  unfold codeB
  cases validB L <;> cases f <;> simp

set_option maxRecDepth 100000 in
set_option maxHeartbeats 1000000 in
theorem kindAt (L : Lw) (hL : Lw.Ok L) (x y : Int) (w : World) :
    Calls Try.prog 15 #[.agg L.cells, .agg #[.int .i8 x, .int .i8 y]] w fun e w' => e = .returned (.tuple #[.int .i64 (kindB L x y), .int .i64 (codeB L (hasB L x y))]) ∧ Below w.heap.size w w' := by
  rcases codeB_cases L (hasB L x y) with hc | hc | hc
  · obtain ⟨hv, hh⟩ := codeB_ok hc
    obtain ⟨i, j, rfl, rfl, hi, hj⟩ := cell_in hv hh
    have hk : kindB L i j = L.c (j * 10 + i) := by simp [kindB, hv, hh]
    have HC := fun (g c : Nat) (w : World) hg => hc ▸ cells1 L hL i j g c w hg
    have HC := Lib.hid HC
    rw [hk, hc]
    clear hk hc hv hh
    go_enter Try.func15, Try.ntmps15
    go_wp2_with (first | (refine loadRow 7 rfl rfl rfl rfl Try.underlying26 rfl (blkA (blkN rfl)) (by rw [Lw.size]; exact size28) ?_) | (go_at_call 27; refine (HC.out _ _ _ (blkN (by simp))).mono ?_; rintro e w1 ⟨rfl, hb⟩; have h1 : w1.heap[w.heap.size]? = some (.cells L.cells 26 (0, 0)) := blkB hb (blkA (blkA (blkN rfl))) (by first | (simp; done) | (simp; omega)); have h2 : w1.heap[w.heap.size + 1]? = some (.cells #[.int .i8 i, .int .i8 j] 39 (0, 0)) := blkB hb (blkA (blkN (by simp))) (by simp); have c0 : w1.cell? ⟨w.heap.size + 1, 0, none⟩ = some (.int .i8 i) := (blkC h2 0).trans rfl; have c1 : w1.cell? ⟨w.heap.size + 1, 1, none⟩ = some (.int .i8 j) := (blkC h2 1).trans rfl) | (refine loadRow 14 rfl rfl rfl rfl Try.underlying26 rfl h1 (by rw [Lw.size]; exact size28) ?_) | (go_at_call 28; refine (kind L hL i j hi hj _).mono ?_; rintro e w2 ⟨rfl, hb2⟩))
    go_ret2
    exact ⟨rfl, belW (belW (belA (belA (belA (Below.refl _ _)))) hb) hb2⟩
  all_goals
    have hk : kindB L x y = 0 := kindB_no (by rw [hc]; decide)
    have HC := fun (g c : Nat) (w : World) hg => hc ▸ cells1 L hL x y g c w hg
    have HC := Lib.hid HC
    rw [hk, hc]
    clear hk hc
    go_enter Try.func15, Try.ntmps15
    go_wp2_with (first | (refine loadRow 7 rfl rfl rfl rfl Try.underlying26 rfl (blkA (blkN rfl)) (by rw [Lw.size]; exact size28) ?_) | (go_at_call 27; refine (HC.out _ _ _ (blkN (by simp))).mono ?_; rintro e w1 ⟨rfl, hb⟩))
    go_ret2
    exact ⟨rfl, belW (belA (belA (belA (Below.refl _ _)))) hb⟩

set_option maxRecDepth 100000 in
set_option maxHeartbeats 1000000 in
theorem sKindAt (L : Lw) (hL : Lw.Ok L) (x y : Int) (hx0 : -128 ≤ x) (hx1 : x ≤ 127) (hy0 : -128 ≤ y) (hy1 : y ≤ 127) (w : World) :
    Calls Try.prog 13 #[.agg L.cells, .agg #[.int .i8 x, .int .i8 y]] w fun e w' => e = .returned (.tuple #[.int .i64 (kindB L x y), .int .i64 (codeB L (hasB L x y))]) ∧ Below w.heap.size w w' := by
  have HI := fun (g : Nat) (t : TypeId) (w : World) hg => sIs L hL x y g t hx0 hx1 hy0 hy1 w hg
  have HI := Lib.hid HI
  have HT := fun (g : Nat) (t : TypeId) (w : World) hg => sTold L hL (hasB L x y) g t w hg
  have HT := Lib.hid HT
  rcases codeB_cases L (hasB L x y) with hc | hc | hc
  · have hc' := hc
    obtain ⟨hv, hh⟩ := codeB_ok hc
    obtain ⟨i, j, rfl, rfl, hi, hj⟩ := cell_in hv hh
    have hk : kindB L i j = L.c (j * 10 + i) := by simp [kindB, hv, hh]
    have HC := Lib.hid hc
    rw [hk, hc]
    clear hk hc hv hh hc'
    go_enter Try.func13, Try.ntmps13
    go_wp2_with (first | (go_at_call 25; refine (HI.out w.heap.size _ _ (blkA (blkN rfl))).mono ?_; rintro e w1 ⟨rfl, hb⟩; have h1 : w1.heap[w.heap.size]? = some (.cells L.cells 26 (0, 0)) := blkB hb (blkA (blkN rfl)) (by first | (simp; done) | (simp; omega)); have h2 : w1.heap[w.heap.size + 1]? = some (.cells #[.int .i8 i, .int .i8 j] 39 (0, 0)) := blkB hb (blkN (by simp)) (by simp)) | (go_at_call 24; refine (HT.out w.heap.size _ _ h1).mono ?_; rw [HC.out]; rintro e w2 ⟨rfl, hb2⟩; have h3 := blkB hb2 h1 (blkLt h1); have h4 := blkB hb2 h2 (blkLt h2); have c0 : w2.cell? ⟨w.heap.size + 1, 0, none⟩ = some (.int .i8 i) := (blkC h4 0).trans rfl; have c1 : w2.cell? ⟨w.heap.size + 1, 1, none⟩ = some (.int .i8 j) := (blkC h4 1).trans rfl) | (go_at_call 26; refine (sAt L hL i j hi hj w.heap.size _ _ h3).mono ?_; rintro e w3 ⟨rfl, hb3⟩))
    go_ret2
    exact ⟨rfl, belW (belW (belW (belA (belA (Below.refl _ _))) hb) hb2) hb3⟩
  all_goals
    have hk : kindB L x y = 0 := kindB_no (by rw [hc]; decide)
    have HC := Lib.hid hc
    rw [hk, hc]
    clear hk hc
    go_enter Try.func13, Try.ntmps13
    go_wp2_with (first | (go_at_call 25; refine (HI.out w.heap.size _ _ (blkA (blkN rfl))).mono ?_; rintro e w1 ⟨rfl, hb⟩; have h1 : w1.heap[w.heap.size]? = some (.cells L.cells 26 (0, 0)) := blkB hb (blkA (blkN rfl)) (by first | (simp; done) | (simp; omega))) | (go_at_call 24; refine (HT.out w.heap.size _ _ h1).mono ?_; rw [HC.out]; rintro e w2 ⟨rfl, hb2⟩))
    go_ret2
    exact ⟨rfl, belW (belW (belA (belA (Below.refl _ _))) hb) hb2⟩

/-- A cell laid anew. -/
theorem toCell (x y : Int) (w : World) : Calls Try.prog 14 #[.agg #[.int .i8 x, .int .i8 y]] w fun e w' => e = .returned (.agg #[.int .i8 x, .int .i8 y]) ∧ Below w.heap.size w w' := by
  go_enter Try.func14, Try.ntmps14
  go_wp2
  exact retRow rfl rfl (blkA (blkN (by simp))) Try.underlying39 rfl (by kernel_rfl) rfl ⟨rfl, belA (belA (belA (Below.refl _ _)))⟩

set_option maxRecDepth 100000 in
set_option maxHeartbeats 2000000 in
theorem lawKindAt (L : Lw) (hL : Lw.Ok L) (x y : Int) (hx : -128 ≤ x ∧ x ≤ 127) (hy : -128 ≤ y ∧ y ≤ 127) (w : World) :
    Calls Try.prog 5 #[.agg L.cells, .agg #[.int .i8 x, .int .i8 y]] w fun e w' => e = .returned (.bool true) ∧ Below w.heap.size w w' := by
  go_enter Try.func5, Try.ntmps5
  go_wp2
  refine wp_region_held_drew (S := fun w' => Below w.heap.size w w' ∧ w'.heap[w.heap.size]? = some (.cells L.cells 31 (0, 0)) ∧ w'.heap[w.heap.size + 1]? = some (.cells #[.int .i8 x, .int .i8 y] 36 (0, 0))) (by kernel_rfl) ⟨belD (belA (belA (Below.refl _ _))), blkD (blkA (blkN rfl)), blkD (blkN (by simp))⟩ (fun hS => ?_)
  refine takeRow 0 rfl rfl (by kernel_rfl) (by kernel_rfl) (by kernel_rfl) (fun _ _ _ h => h) rfl rfl rfl Try.underlying31 rfl (fun w h => h.2.1) (by rw [Lw.size]; kernel_rfl) hS ?_
  simp only [Act.put, List.setIfInBounds_toArray, List.set_cons_zero, List.set_cons_succ]
  refine takeRow 2 rfl rfl (by kernel_rfl) (by kernel_rfl) (by kernel_rfl) (fun _ _ _ h => h) rfl rfl rfl Try.underlying36 rfl (fun w h => h.2.2) (by kernel_rfl) hS ?_
  simp only [Act.put, List.setIfInBounds_toArray, List.set_cons_zero, List.set_cons_succ]
  refine wpAnyH_ready (rs := [1]) (by kernel_rfl) (by simp) (AllReadyH.cons rfl (fun K hK => ?_) AllReadyH.nil)
  go_simp
  go_at_call 11
  refine (toLawn _ _).mono ?_
  rintro e w1_1 ⟨rfl, hb⟩
  refine hK.out _ _ ⟨belW hS.1 hb, blkB hb hS.2.1 (blkLt hS.2.1), blkB hb hS.2.2 (blkLt hS.2.2)⟩ (fun hS => ?_)
  clear hb hK
  refine wpAnyH_ready (rs := [3]) (by kernel_rfl) (by simp) (AllReadyH.cons rfl (fun K hK => ?_) AllReadyH.nil)
  go_simp
  go_at_call 14
  refine (toCell _ _ _).mono ?_
  rintro e w1_3 ⟨rfl, hb⟩
  refine hK.out _ _ ⟨belW hS.1 hb, blkB hb hS.2.1 (blkLt hS.2.1), blkB hb hS.2.2 (blkLt hS.2.2)⟩ (fun hS => ?_)
  clear hb hK
  refine wpAnyH_ready (rs := [4]) (by kernel_rfl) (by simp) (AllReadyH.cons rfl (fun K hK => ?_) AllReadyH.nil)
  go_simp
  go_at_call 13
  refine (sKindAt L hL x y hx.1 hx.2 hy.1 hy.2 _).mono ?_
  rintro e w1_4 ⟨rfl, hb⟩
  refine hK.out _ _ ⟨belW hS.1 hb, blkB hb hS.2.1 (blkLt hS.2.1), blkB hb hS.2.2 (blkLt hS.2.2)⟩ (fun hS => ?_)
  clear hb hK
  refine takeAny 5 (dN := some 9) (v := ?v5_5_6) rfl rfl (by kernel_rfl) (by kernel_rfl) (by kernel_rfl) (fun _ _ _ h => h) (.inl ⟨rfl, fun w' hSw => ?h5_5_6⟩) hS ?_
  case h5_5_6 => (go_simp; first | done | with_reducible rfl)
  simp only [Act.put, List.setIfInBounds_toArray, List.set_cons_zero, List.set_cons_succ]
  refine takeAny 6 (dN := some 15) (v := ?v5_6_7) rfl rfl (by kernel_rfl) (by kernel_rfl) (by kernel_rfl) (fun _ _ _ h => h) (.inl ⟨rfl, fun w' hSw => ?h5_6_7⟩) hS ?_
  case h5_6_7 => (go_simp; first | done | with_reducible rfl)
  simp only [Act.put, List.setIfInBounds_toArray, List.set_cons_zero, List.set_cons_succ]
  refine takeAny 7 (dN := some 16) (v := ?v5_7_8) rfl rfl (by kernel_rfl) (by kernel_rfl) (by kernel_rfl) (fun _ _ _ h => h) (.inl ⟨rfl, fun w' hSw => ?h5_7_8⟩) hS ?_
  case h5_7_8 => (go_simp; first | done | with_reducible rfl)
  simp only [Act.put, List.setIfInBounds_toArray, List.set_cons_zero, List.set_cons_succ]
  refine takeAny 8 (dN := some 5) (v := ?v5_8_9) rfl rfl (by kernel_rfl) (by kernel_rfl) (by kernel_rfl) (fun _ _ _ h => h) (.inl ⟨rfl, fun w' hSw => ?h5_8_9⟩) hS ?_
  case h5_8_9 => (go_simp; first | done | with_reducible rfl)
  simp only [Act.put, List.setIfInBounds_toArray, List.set_cons_zero, List.set_cons_succ]
  refine takeAny 9 (dN := some 6) (v := ?v5_9_10) rfl rfl (by kernel_rfl) (by kernel_rfl) (by kernel_rfl) (fun _ _ _ h => h) (.inl ⟨rfl, fun w' hSw => ?h5_9_10⟩) hS ?_
  case h5_9_10 => (go_simp; first | done | with_reducible rfl)
  simp only [Act.put, List.setIfInBounds_toArray, List.set_cons_zero, List.set_cons_succ]
  refine wpAnyH_done (by kernel_rfl) ?_ _
  go_wp2
  refine wp_region_held_drew (S := fun w' => Below w.heap.size w w' ∧ w'.heap[w.heap.size]? = some (.cells L.cells 31 (0, 0)) ∧ w'.heap[w.heap.size + 1]? = some (.cells #[.int .i8 x, .int .i8 y] 36 (0, 0))) (by kernel_rfl) ⟨belD hS.1, blkD hS.2.1, blkD hS.2.2⟩ (fun hS => ?_)
  refine takeRow 0 rfl rfl (by kernel_rfl) (by kernel_rfl) (by kernel_rfl) (fun _ _ _ h => h) rfl rfl rfl Try.underlying31 rfl (fun w h => h.2.1) (by rw [Lw.size]; kernel_rfl) hS ?_
  simp only [Act.put, List.setIfInBounds_toArray, List.set_cons_zero, List.set_cons_succ]
  refine takeRow 2 rfl rfl (by kernel_rfl) (by kernel_rfl) (by kernel_rfl) (fun _ _ _ h => h) rfl rfl rfl Try.underlying36 rfl (fun w h => h.2.2) (by kernel_rfl) hS ?_
  simp only [Act.put, List.setIfInBounds_toArray, List.set_cons_zero, List.set_cons_succ]
  refine wpAnyH_ready (rs := [1]) (by kernel_rfl) (by simp) (AllReadyH.cons rfl (fun K hK => ?_) AllReadyH.nil)
  go_simp
  go_at_call 11
  refine (toLawn _ _).mono ?_
  rintro e w2_1 ⟨rfl, hb⟩
  refine hK.out _ _ ⟨belW hS.1 hb, blkB hb hS.2.1 (blkLt hS.2.1), blkB hb hS.2.2 (blkLt hS.2.2)⟩ (fun hS => ?_)
  clear hb hK
  refine wpAnyH_ready (rs := [3]) (by kernel_rfl) (by simp) (AllReadyH.cons rfl (fun K hK => ?_) AllReadyH.nil)
  go_simp
  go_at_call 14
  refine (toCell _ _ _).mono ?_
  rintro e w2_3 ⟨rfl, hb⟩
  refine hK.out _ _ ⟨belW hS.1 hb, blkB hb hS.2.1 (blkLt hS.2.1), blkB hb hS.2.2 (blkLt hS.2.2)⟩ (fun hS => ?_)
  clear hb hK
  refine wpAnyH_ready (rs := [4]) (by kernel_rfl) (by simp) (AllReadyH.cons rfl (fun K hK => ?_) AllReadyH.nil)
  go_simp
  go_at_call 15
  refine (kindAt L hL x y _).mono ?_
  rintro e w2_4 ⟨rfl, hb⟩
  refine hK.out _ _ ⟨belW hS.1 hb, blkB hb hS.2.1 (blkLt hS.2.1), blkB hb hS.2.2 (blkLt hS.2.2)⟩ (fun hS => ?_)
  clear hb hK
  refine takeAny 5 (dN := some 17) (v := ?v6_5_6) rfl rfl (by kernel_rfl) (by kernel_rfl) (by kernel_rfl) (fun _ _ _ h => h) (.inl ⟨rfl, fun w' hSw => ?h6_5_6⟩) hS ?_
  case h6_5_6 => (go_simp; first | done | with_reducible rfl)
  simp only [Act.put, List.setIfInBounds_toArray, List.set_cons_zero, List.set_cons_succ]
  refine takeAny 6 (dN := some 23) (v := ?v6_6_7) rfl rfl (by kernel_rfl) (by kernel_rfl) (by kernel_rfl) (fun _ _ _ h => h) (.inl ⟨rfl, fun w' hSw => ?h6_6_7⟩) hS ?_
  case h6_6_7 => (go_simp; first | done | with_reducible rfl)
  simp only [Act.put, List.setIfInBounds_toArray, List.set_cons_zero, List.set_cons_succ]
  refine takeAny 7 (dN := some 24) (v := ?v6_7_8) rfl rfl (by kernel_rfl) (by kernel_rfl) (by kernel_rfl) (fun _ _ _ h => h) (.inl ⟨rfl, fun w' hSw => ?h6_7_8⟩) hS ?_
  case h6_7_8 => (go_simp; first | done | with_reducible rfl)
  simp only [Act.put, List.setIfInBounds_toArray, List.set_cons_zero, List.set_cons_succ]
  refine takeAny 8 (dN := some 7) (v := ?v6_8_9) rfl rfl (by kernel_rfl) (by kernel_rfl) (by kernel_rfl) (fun _ _ _ h => h) (.inl ⟨rfl, fun w' hSw => ?h6_8_9⟩) hS ?_
  case h6_8_9 => (go_simp; first | done | with_reducible rfl)
  simp only [Act.put, List.setIfInBounds_toArray, List.set_cons_zero, List.set_cons_succ]
  refine takeAny 9 (dN := some 8) (v := ?v6_9_10) rfl rfl (by kernel_rfl) (by kernel_rfl) (by kernel_rfl) (fun _ _ _ h => h) (.inl ⟨rfl, fun w' hSw => ?h6_9_10⟩) hS ?_
  case h6_9_10 => (go_simp; first | done | with_reducible rfl)
  simp only [Act.put, List.setIfInBounds_toArray, List.set_cons_zero, List.set_cons_succ]
  refine wpAnyH_done (by kernel_rfl) ?_ _
  go_wp2
  go_ret
  exact ⟨rfl, hS.1⟩
end Go.Proofs.Ytbjglaflggkalaa.L
