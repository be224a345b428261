/- Walks: the law of SidesAt. -/
import Derived.Test.YtchhjdjdhlfhlaaSides2
import Derived.Deep.DeepCutAuto
namespace Go.Proofs.Ytchhjdjdhlfhlaa.L
set_option linter.unusedSimpArgs false
set_option linter.unusedVariables false
open Go.RowKit Go.Proofs.Ytchhjdjdhlfhlaa.B

/-- A cell laid anew. -/
theorem toCell (x y : Int) (w : World) : Calls Try.prog 15 #[.agg #[.int .i8 x, .int .i8 y]] w fun e w' => e = .returned (.agg #[.int .i8 x, .int .i8 y]) ∧ Below w.heap.size w w' := by
  go_enter Try.func15, Try.ntmps15
  go_wp2
  exact retRow rfl rfl (blkA (blkN (by simp))) Try.underlying44 rfl (by kernel_rfl) rfl ⟨rfl, belA (belA (belA (Below.refl _ _)))⟩
theorem zero5 : (Try.prog.info? 41).map (fun i => (i.zero, i.size)) = some (some (.agg (arr .i64 5 fun _ => 0)), 5) := by kernel_rfl
set_option maxRecDepth 100000 in
set_option maxHeartbeats 2000000 in
theorem lawSides (L : Lw) (hL : Lw.Ok L) (x y : Int) (hx : -128 ≤ x ∧ x ≤ 127) (hy : -128 ≤ y ∧ y ≤ 127) (w : World) :
    Calls Try.prog 5 #[.agg L.cells, .agg #[.int .i8 x, .int .i8 y]] w fun e w' => e = .returned (.bool true) ∧ Below w.heap.size w w' := by
  obtain ⟨hz, _⟩ := zero_of_info zero5
  go_enter Try.func5, Try.ntmps5
  go_upto_region 1 with fail
  go_cut [5, 6] (fun p c wr => ∃ g, p = .pointer (some ⟨g, 0, none⟩) ∧ c = .int .i64 (gcB L x y) ∧ w.heap.size ≠ g ∧ w.heap.size + 1 ≠ g ∧ Below w.heap.size w wr ∧ wr.heap[w.heap.size]? = some (.cells L.cells 26 (0, 0)) ∧ wr.heap[w.heap.size + 1]? = some (.cells #[.int .i8 x, .int .i8 y] 39 (0, 0)) ∧ wr.heap[g]? = some (.cells (arr .i64 5 (sdB L x y)) 41 (0, 0)))
  case first =>
    refine wp_region_held_drew (S := fun w' => Below w.heap.size w w' ∧ w'.heap[w.heap.size]? = some (.cells L.cells 26 (0, 0)) ∧ w'.heap[w.heap.size + 1]? = some (.cells #[.int .i8 x, .int .i8 y] 39 (0, 0))) (by kernel_rfl) ⟨belD (belA (belA (Below.refl _ _))), blkD (blkA (blkN rfl)), blkD (blkN (by simp))⟩ (fun hS => ?_)
    refine takeRow 0 rfl rfl (by kernel_rfl) (by kernel_rfl) (by kernel_rfl) (fun _ _ _ h => h) rfl rfl rfl Try.underlying26 rfl (fun w h => h.2.1) (by rw [Lw.size]; kernel_rfl) hS ?_
    simp only [Act.put, List.setIfInBounds_toArray, List.set_cons_zero, List.set_cons_succ]
    refine takeRow 2 rfl rfl (by kernel_rfl) (by kernel_rfl) (by kernel_rfl) (fun _ _ _ h => h) rfl rfl rfl Try.underlying39 rfl (fun w h => h.2.2) (by kernel_rfl) hS ?_
    simp only [Act.put, List.setIfInBounds_toArray, List.set_cons_zero, List.set_cons_succ]
    refine wpAnyH_ready (rs := [1, 8]) (by kernel_rfl) (by simp) (AllReadyH.cons rfl (fun K hK => ?_) (AllReadyH.cons rfl (fun K hK => ?_) AllReadyH.nil))
    · go_simp
      go_at_call 9
      refine (toLawn _ _).mono ?_
      rintro e w1_1 ⟨rfl, hb⟩
      refine hK.out _ _ ⟨belW hS.1 hb, blkB hb hS.2.1 (blkLt hS.2.1), blkB hb hS.2.2 (blkLt hS.2.2)⟩ (fun hS => ?_)
      clear hb hK
      refine wpAnyH_ready (rs := [3, 8]) (by kernel_rfl) (by simp) (AllReadyH.cons rfl (fun K hK => ?_) (AllReadyH.cons rfl (fun K hK => ?_) AllReadyH.nil))
      · go_simp
        go_at_call 15
        refine (toCell _ _ _).mono ?_
        rintro e w1_3 ⟨rfl, hb⟩
        refine hK.out _ _ ⟨belW hS.1 hb, blkB hb hS.2.1 (blkLt hS.2.1), blkB hb hS.2.2 (blkLt hS.2.2)⟩ (fun hS => ?_)
        clear hb hK
        refine wpAnyH_ready (rs := [4, 8]) (by kernel_rfl) (by simp) (AllReadyH.cons rfl (fun K hK => ?_) (AllReadyH.cons rfl (fun K hK => ?_) AllReadyH.nil))
        · go_simp
          go_at_call 14
          refine (sSidesAt L hL x y hx.1 hx.2 hy.1 hy.2 _).mono ?_
          rintro e w1_4 ⟨rfl, hb⟩
          refine hK.out _ _ ⟨belW hS.1 hb, blkB hb hS.2.1 (blkLt hS.2.1), blkB hb hS.2.2 (blkLt hS.2.2)⟩ (fun hS => ?_)
          clear hb hK
          refine takeAny 5 (dN := some 9) (v := ?v1_5_6) rfl rfl (by kernel_rfl) (by kernel_rfl) (by kernel_rfl) (fun _ _ _ h => h) (.inl ⟨rfl, fun w' hSw => ?h1_5_6⟩) hS ?_
          case h1_5_6 => (go_simp; first | done | with_reducible rfl)
          simp only [Act.put, List.setIfInBounds_toArray, List.set_cons_zero, List.set_cons_succ]
          refine takeAny 6 (dN := some 15) (v := ?v1_6_7) rfl rfl (by kernel_rfl) (by kernel_rfl) (by kernel_rfl) (fun _ _ _ h => h) (.inl ⟨rfl, fun w' hSw => ?h1_6_7⟩) hS ?_
          case h1_6_7 => (go_simp; first | done | with_reducible rfl)
          simp only [Act.put, List.setIfInBounds_toArray, List.set_cons_zero, List.set_cons_succ]
          refine takeAny 7 (dN := some 16) (v := ?v1_7_8) rfl rfl (by kernel_rfl) (by kernel_rfl) (by kernel_rfl) (fun _ _ _ h => h) (.inl ⟨rfl, fun w' hSw => ?h1_7_8⟩) hS ?_
          case h1_7_8 => (go_simp; first | done | with_reducible rfl)
          simp only [Act.put, List.setIfInBounds_toArray, List.set_cons_zero, List.set_cons_succ]
          refine wpAnyH_ready (rs := [8]) (by kernel_rfl) (by simp) (AllReadyH.cons rfl (fun K hK => ?_) AllReadyH.nil)
          refine allocStep rfl rfl rfl hz ?_
          intro g8 w1_8 hG8 hlt hN8 hb
          have hne8_1 := Nat.ne_of_lt (Nat.lt_of_lt_of_le (blkLt hS.2.1) hG8)
          have hne8_2 := Nat.ne_of_lt (Nat.lt_of_lt_of_le (blkLt hS.2.2) hG8)
          have hG8 := Nat.le_trans hS.1.size hG8
          simp only [Act.put, List.setIfInBounds_toArray, List.set_cons_zero, List.set_cons_succ]
          refine hK.out _ _ ⟨belW hS.1 hb, blkB hb hS.2.1 (blkLt hS.2.1), blkB hb hS.2.2 (blkLt hS.2.2)⟩ (fun hS => ?_)
          clear hb hK hlt
          refine wpAnyH_ready (rs := [9]) (by kernel_rfl) (by simp) (AllReadyH.cons rfl (fun K hK => ?_) AllReadyH.nil)
          refine storeStep rfl rfl rfl rfl rfl hN8 (by rw [arr_size]; exact size5) (by simp only [arr_size]) (arr_one _ _ _) ?_
          intro w1_9 j1 j2 j3 j4
          refine hK.out _ _ ⟨belT hS.1 j3 hG8, (j2 _ hne8_1).trans hS.2.1, (j2 _ hne8_2).trans hS.2.2⟩ (fun hS => ?_)
          have hN8 := j1
          clear j1 j2 j3 j4 hK
          refine takeAny 10 (dN := some 6) (v := ?v1_10_11) rfl rfl (by kernel_rfl) (by kernel_rfl) (by kernel_rfl) (fun _ _ _ h => h) (.inl ⟨rfl, fun w' hSw => ?h1_10_11⟩) hS ?_
          case h1_10_11 => (go_simp; first | done | with_reducible rfl)
          simp only [Act.put, List.setIfInBounds_toArray, List.set_cons_zero, List.set_cons_succ]
          refine wpAnyH_done (by kernel_rfl) ?_ _
          (go_wp2_with fail; go_meet; exact ⟨g8, rfl, rfl, hne8_1, hne8_2, hS.1, hS.2.1, hS.2.2, hN8⟩)
        · refine allocStep rfl rfl rfl hz ?_
          intro g8 w1_8 hG8 hlt hN8 hb
          have hne8_1 := Nat.ne_of_lt (Nat.lt_of_lt_of_le (blkLt hS.2.1) hG8)
          have hne8_2 := Nat.ne_of_lt (Nat.lt_of_lt_of_le (blkLt hS.2.2) hG8)
          have hG8 := Nat.le_trans hS.1.size hG8
          simp only [Act.put, List.setIfInBounds_toArray, List.set_cons_zero, List.set_cons_succ]
          refine hK.out _ _ ⟨belW hS.1 hb, blkB hb hS.2.1 (blkLt hS.2.1), blkB hb hS.2.2 (blkLt hS.2.2)⟩ (fun hS => ?_)
          clear hb hK hlt
          refine wpAnyH_ready (rs := [4]) (by kernel_rfl) (by simp) (AllReadyH.cons rfl (fun K hK => ?_) AllReadyH.nil)
          go_simp
          go_at_call 14
          refine (sSidesAt L hL x y hx.1 hx.2 hy.1 hy.2 _).mono ?_
          rintro e w1_4 ⟨rfl, hb⟩
          have hN8 := blkB hb hN8 (blkLt hN8)
          refine hK.out _ _ ⟨belW hS.1 hb, blkB hb hS.2.1 (blkLt hS.2.1), blkB hb hS.2.2 (blkLt hS.2.2)⟩ (fun hS => ?_)
          clear hb hK
          refine takeAny 5 (dN := some 9) (v := ?v1_5_13) rfl rfl (by kernel_rfl) (by kernel_rfl) (by kernel_rfl) (fun _ _ _ h => h) (.inl ⟨rfl, fun w' hSw => ?h1_5_13⟩) hS ?_
          case h1_5_13 => (go_simp; first | done | with_reducible rfl)
          simp only [Act.put, List.setIfInBounds_toArray, List.set_cons_zero, List.set_cons_succ]
          refine takeAny 6 (dN := some 15) (v := ?v1_6_14) rfl rfl (by kernel_rfl) (by kernel_rfl) (by kernel_rfl) (fun _ _ _ h => h) (.inl ⟨rfl, fun w' hSw => ?h1_6_14⟩) hS ?_
          case h1_6_14 => (go_simp; first | done | with_reducible rfl)
          simp only [Act.put, List.setIfInBounds_toArray, List.set_cons_zero, List.set_cons_succ]
          refine takeAny 7 (dN := some 16) (v := ?v1_7_15) rfl rfl (by kernel_rfl) (by kernel_rfl) (by kernel_rfl) (fun _ _ _ h => h) (.inl ⟨rfl, fun w' hSw => ?h1_7_15⟩) hS ?_
          case h1_7_15 => (go_simp; first | done | with_reducible rfl)
          simp only [Act.put, List.setIfInBounds_toArray, List.set_cons_zero, List.set_cons_succ]
          refine wpAnyH_ready (rs := [9]) (by kernel_rfl) (by simp) (AllReadyH.cons rfl (fun K hK => ?_) AllReadyH.nil)
          refine storeStep rfl rfl rfl rfl rfl hN8 (by rw [arr_size]; exact size5) (by simp only [arr_size]) (arr_one _ _ _) ?_
          intro w1_9 j1 j2 j3 j4
          refine hK.out _ _ ⟨belT hS.1 j3 hG8, (j2 _ hne8_1).trans hS.2.1, (j2 _ hne8_2).trans hS.2.2⟩ (fun hS => ?_)
          have hN8 := j1
          clear j1 j2 j3 j4 hK
          refine takeAny 10 (dN := some 6) (v := ?v1_10_17) rfl rfl (by kernel_rfl) (by kernel_rfl) (by kernel_rfl) (fun _ _ _ h => h) (.inl ⟨rfl, fun w' hSw => ?h1_10_17⟩) hS ?_
          case h1_10_17 => (go_simp; first | done | with_reducible rfl)
          simp only [Act.put, List.setIfInBounds_toArray, List.set_cons_zero, List.set_cons_succ]
          refine wpAnyH_done (by kernel_rfl) ?_ _
          (go_wp2_with fail; go_meet; exact ⟨g8, rfl, rfl, hne8_1, hne8_2, hS.1, hS.2.1, hS.2.2, hN8⟩)
      · refine allocStep rfl rfl rfl hz ?_
        intro g8 w1_8 hG8 hlt hN8 hb
        have hne8_1 := Nat.ne_of_lt (Nat.lt_of_lt_of_le (blkLt hS.2.1) hG8)
        have hne8_2 := Nat.ne_of_lt (Nat.lt_of_lt_of_le (blkLt hS.2.2) hG8)
        have hG8 := Nat.le_trans hS.1.size hG8
        simp only [Act.put, List.setIfInBounds_toArray, List.set_cons_zero, List.set_cons_succ]
        refine hK.out _ _ ⟨belW hS.1 hb, blkB hb hS.2.1 (blkLt hS.2.1), blkB hb hS.2.2 (blkLt hS.2.2)⟩ (fun hS => ?_)
        clear hb hK hlt
        refine wpAnyH_ready (rs := [3]) (by kernel_rfl) (by simp) (AllReadyH.cons rfl (fun K hK => ?_) AllReadyH.nil)
        go_simp
        go_at_call 15
        refine (toCell _ _ _).mono ?_
        rintro e w1_3 ⟨rfl, hb⟩
        have hN8 := blkB hb hN8 (blkLt hN8)
        refine hK.out _ _ ⟨belW hS.1 hb, blkB hb hS.2.1 (blkLt hS.2.1), blkB hb hS.2.2 (blkLt hS.2.2)⟩ (fun hS => ?_)
        clear hb hK
        refine wpAnyH_ready (rs := [4]) (by kernel_rfl) (by simp) (AllReadyH.cons rfl (fun K hK => ?_) AllReadyH.nil)
        go_simp
        go_at_call 14
        refine (sSidesAt L hL x y hx.1 hx.2 hy.1 hy.2 _).mono ?_
        rintro e w1_4 ⟨rfl, hb⟩
        have hN8 := blkB hb hN8 (blkLt hN8)
        refine hK.out _ _ ⟨belW hS.1 hb, blkB hb hS.2.1 (blkLt hS.2.1), blkB hb hS.2.2 (blkLt hS.2.2)⟩ (fun hS => ?_)
        clear hb hK
        refine takeAny 5 (dN := some 9) (v := ?v1_5_20) rfl rfl (by kernel_rfl) (by kernel_rfl) (by kernel_rfl) (fun _ _ _ h => h) (.inl ⟨rfl, fun w' hSw => ?h1_5_20⟩) hS ?_
        case h1_5_20 => (go_simp; first | done | with_reducible rfl)
        simp only [Act.put, List.setIfInBounds_toArray, List.set_cons_zero, List.set_cons_succ]
        refine takeAny 6 (dN := some 15) (v := ?v1_6_21) rfl rfl (by kernel_rfl) (by kernel_rfl) (by kernel_rfl) (fun _ _ _ h => h) (.inl ⟨rfl, fun w' hSw => ?h1_6_21⟩) hS ?_
        case h1_6_21 => (go_simp; first | done | with_reducible rfl)
        simp only [Act.put, List.setIfInBounds_toArray, List.set_cons_zero, List.set_cons_succ]
        refine takeAny 7 (dN := some 16) (v := ?v1_7_22) rfl rfl (by kernel_rfl) (by kernel_rfl) (by kernel_rfl) (fun _ _ _ h => h) (.inl ⟨rfl, fun w' hSw => ?h1_7_22⟩) hS ?_
        case h1_7_22 => (go_simp; first | done | with_reducible rfl)
        simp only [Act.put, List.setIfInBounds_toArray, List.set_cons_zero, List.set_cons_succ]
        refine wpAnyH_ready (rs := [9]) (by kernel_rfl) (by simp) (AllReadyH.cons rfl (fun K hK => ?_) AllReadyH.nil)
        refine storeStep rfl rfl rfl rfl rfl hN8 (by rw [arr_size]; exact size5) (by simp only [arr_size]) (arr_one _ _ _) ?_
        intro w1_9 j1 j2 j3 j4
        refine hK.out _ _ ⟨belT hS.1 j3 hG8, (j2 _ hne8_1).trans hS.2.1, (j2 _ hne8_2).trans hS.2.2⟩ (fun hS => ?_)
        have hN8 := j1
        clear j1 j2 j3 j4 hK
        refine takeAny 10 (dN := some 6) (v := ?v1_10_24) rfl rfl (by kernel_rfl) (by kernel_rfl) (by kernel_rfl) (fun _ _ _ h => h) (.inl ⟨rfl, fun w' hSw => ?h1_10_24⟩) hS ?_
        case h1_10_24 => (go_simp; first | done | with_reducible rfl)
        simp only [Act.put, List.setIfInBounds_toArray, List.set_cons_zero, List.set_cons_succ]
        refine wpAnyH_done (by kernel_rfl) ?_ _
        (go_wp2_with fail; go_meet; exact ⟨g8, rfl, rfl, hne8_1, hne8_2, hS.1, hS.2.1, hS.2.2, hN8⟩)
    · refine allocStep rfl rfl rfl hz ?_
      intro g8 w1_8 hG8 hlt hN8 hb
      have hne8_1 := Nat.ne_of_lt (Nat.lt_of_lt_of_le (blkLt hS.2.1) hG8)
      have hne8_2 := Nat.ne_of_lt (Nat.lt_of_lt_of_le (blkLt hS.2.2) hG8)
      have hG8 := Nat.le_trans hS.1.size hG8
      simp only [Act.put, List.setIfInBounds_toArray, List.set_cons_zero, List.set_cons_succ]
      refine hK.out _ _ ⟨belW hS.1 hb, blkB hb hS.2.1 (blkLt hS.2.1), blkB hb hS.2.2 (blkLt hS.2.2)⟩ (fun hS => ?_)
      clear hb hK hlt
      refine wpAnyH_ready (rs := [1]) (by kernel_rfl) (by simp) (AllReadyH.cons rfl (fun K hK => ?_) AllReadyH.nil)
      go_simp
      go_at_call 9
      refine (toLawn _ _).mono ?_
      rintro e w1_1 ⟨rfl, hb⟩
      have hN8 := blkB hb hN8 (blkLt hN8)
      refine hK.out _ _ ⟨belW hS.1 hb, blkB hb hS.2.1 (blkLt hS.2.1), blkB hb hS.2.2 (blkLt hS.2.2)⟩ (fun hS => ?_)
      clear hb hK
      refine wpAnyH_ready (rs := [3]) (by kernel_rfl) (by simp) (AllReadyH.cons rfl (fun K hK => ?_) AllReadyH.nil)
      go_simp
      go_at_call 15
      refine (toCell _ _ _).mono ?_
      rintro e w1_3 ⟨rfl, hb⟩
      have hN8 := blkB hb hN8 (blkLt hN8)
      refine hK.out _ _ ⟨belW hS.1 hb, blkB hb hS.2.1 (blkLt hS.2.1), blkB hb hS.2.2 (blkLt hS.2.2)⟩ (fun hS => ?_)
      clear hb hK
      refine wpAnyH_ready (rs := [4]) (by kernel_rfl) (by simp) (AllReadyH.cons rfl (fun K hK => ?_) AllReadyH.nil)
      go_simp
      go_at_call 14
      refine (sSidesAt L hL x y hx.1 hx.2 hy.1 hy.2 _).mono ?_
      rintro e w1_4 ⟨rfl, hb⟩
      have hN8 := blkB hb hN8 (blkLt hN8)
      refine hK.out _ _ ⟨belW hS.1 hb, blkB hb hS.2.1 (blkLt hS.2.1), blkB hb hS.2.2 (blkLt hS.2.2)⟩ (fun hS => ?_)
      clear hb hK
      refine takeAny 5 (dN := some 9) (v := ?v1_5_28) rfl rfl (by kernel_rfl) (by kernel_rfl) (by kernel_rfl) (fun _ _ _ h => h) (.inl ⟨rfl, fun w' hSw => ?h1_5_28⟩) hS ?_
      case h1_5_28 => (go_simp; first | done | with_reducible rfl)
      simp only [Act.put, List.setIfInBounds_toArray, List.set_cons_zero, List.set_cons_succ]
      refine takeAny 6 (dN := some 15) (v := ?v1_6_29) rfl rfl (by kernel_rfl) (by kernel_rfl) (by kernel_rfl) (fun _ _ _ h => h) (.inl ⟨rfl, fun w' hSw => ?h1_6_29⟩) hS ?_
      case h1_6_29 => (go_simp; first | done | with_reducible rfl)
      simp only [Act.put, List.setIfInBounds_toArray, List.set_cons_zero, List.set_cons_succ]
      refine takeAny 7 (dN := some 16) (v := ?v1_7_30) rfl rfl (by kernel_rfl) (by kernel_rfl) (by kernel_rfl) (fun _ _ _ h => h) (.inl ⟨rfl, fun w' hSw => ?h1_7_30⟩) hS ?_
      case h1_7_30 => (go_simp; first | done | with_reducible rfl)
      simp only [Act.put, List.setIfInBounds_toArray, List.set_cons_zero, List.set_cons_succ]
      refine wpAnyH_ready (rs := [9]) (by kernel_rfl) (by simp) (AllReadyH.cons rfl (fun K hK => ?_) AllReadyH.nil)
      refine storeStep rfl rfl rfl rfl rfl hN8 (by rw [arr_size]; exact size5) (by simp only [arr_size]) (arr_one _ _ _) ?_
      intro w1_9 j1 j2 j3 j4
      refine hK.out _ _ ⟨belT hS.1 j3 hG8, (j2 _ hne8_1).trans hS.2.1, (j2 _ hne8_2).trans hS.2.2⟩ (fun hS => ?_)
      have hN8 := j1
      clear j1 j2 j3 j4 hK
      refine takeAny 10 (dN := some 6) (v := ?v1_10_32) rfl rfl (by kernel_rfl) (by kernel_rfl) (by kernel_rfl) (fun _ _ _ h => h) (.inl ⟨rfl, fun w' hSw => ?h1_10_32⟩) hS ?_
      case h1_10_32 => (go_simp; first | done | with_reducible rfl)
      simp only [Act.put, List.setIfInBounds_toArray, List.set_cons_zero, List.set_cons_succ]
      refine wpAnyH_done (by kernel_rfl) ?_ _
      (go_wp2_with fail; go_meet; exact ⟨g8, rfl, rfl, hne8_1, hne8_2, hS.1, hS.2.1, hS.2.2, hN8⟩)
  case rest =>
    obtain ⟨g, rfl, rfl, n1, n2, hB, h1, h2, h3⟩ := hcut
    go_upto_region 2 with fail
    go_cut [7, 8] (fun p c wr => ∃ g2, p = .pointer (some ⟨g2, 0, none⟩) ∧ c = .int .i64 (gcB L x y) ∧ Below w.heap.size w wr ∧ wr.heap[g]? = some (.cells (arr .i64 5 (sdB L x y)) 41 (0, 0)) ∧ wr.heap[g2]? = some (.cells (arr .i64 5 (sdB L x y)) 41 (0, 0)))
    case first =>
      refine wp_region_held_drew (S := fun w' => Below w.heap.size w w' ∧ w'.heap[w.heap.size]? = some (.cells L.cells 26 (0, 0)) ∧ w'.heap[w.heap.size + 1]? = some (.cells #[.int .i8 x, .int .i8 y] 39 (0, 0)) ∧ w'.heap[g]? = some (.cells (arr .i64 5 (sdB L x y)) 41 (0, 0))) (by kernel_rfl) ⟨belD hB, blkD h1, blkD h2, blkD h3⟩ (fun hS => ?_)
      refine takeRow 0 rfl rfl (by kernel_rfl) (by kernel_rfl) (by kernel_rfl) (fun _ _ _ h => h) rfl rfl rfl Try.underlying26 rfl (fun w h => h.2.1) (by rw [Lw.size]; kernel_rfl) hS ?_
      simp only [Act.put, List.setIfInBounds_toArray, List.set_cons_zero, List.set_cons_succ]
      refine takeRow 2 rfl rfl (by kernel_rfl) (by kernel_rfl) (by kernel_rfl) (fun _ _ _ h => h) rfl rfl rfl Try.underlying39 rfl (fun w h => h.2.2.1) (by kernel_rfl) hS ?_
      simp only [Act.put, List.setIfInBounds_toArray, List.set_cons_zero, List.set_cons_succ]
      refine wpAnyH_ready (rs := [1, 8]) (by kernel_rfl) (by simp) (AllReadyH.cons rfl (fun K hK => ?_) (AllReadyH.cons rfl (fun K hK => ?_) AllReadyH.nil))
      · go_simp
        go_at_call 9
        refine (toLawn _ _).mono ?_
        rintro e w2_1 ⟨rfl, hb⟩
        refine hK.out _ _ ⟨belW hS.1 hb, blkB hb hS.2.1 (blkLt hS.2.1), blkB hb hS.2.2.1 (blkLt hS.2.2.1), blkB hb hS.2.2.2 (blkLt hS.2.2.2)⟩ (fun hS => ?_)
        clear hb hK
        refine wpAnyH_ready (rs := [3, 8]) (by kernel_rfl) (by simp) (AllReadyH.cons rfl (fun K hK => ?_) (AllReadyH.cons rfl (fun K hK => ?_) AllReadyH.nil))
        · go_simp
          go_at_call 15
          refine (toCell _ _ _).mono ?_
          rintro e w2_3 ⟨rfl, hb⟩
          refine hK.out _ _ ⟨belW hS.1 hb, blkB hb hS.2.1 (blkLt hS.2.1), blkB hb hS.2.2.1 (blkLt hS.2.2.1), blkB hb hS.2.2.2 (blkLt hS.2.2.2)⟩ (fun hS => ?_)
          clear hb hK
          refine wpAnyH_ready (rs := [4, 8]) (by kernel_rfl) (by simp) (AllReadyH.cons rfl (fun K hK => ?_) (AllReadyH.cons rfl (fun K hK => ?_) AllReadyH.nil))
          · go_simp
            go_at_call 16
            refine (sidesAt L hL x y _).mono ?_
            rintro e w2_4 ⟨rfl, hb⟩
            refine hK.out _ _ ⟨belW hS.1 hb, blkB hb hS.2.1 (blkLt hS.2.1), blkB hb hS.2.2.1 (blkLt hS.2.2.1), blkB hb hS.2.2.2 (blkLt hS.2.2.2)⟩ (fun hS => ?_)
            clear hb hK
            refine takeAny 5 (dN := some 17) (v := ?v2_5_6) rfl rfl (by kernel_rfl) (by kernel_rfl) (by kernel_rfl) (fun _ _ _ h => h) (.inl ⟨rfl, fun w' hSw => ?h2_5_6⟩) hS ?_
            case h2_5_6 => (go_simp; first | done | with_reducible rfl)
            simp only [Act.put, List.setIfInBounds_toArray, List.set_cons_zero, List.set_cons_succ]
            refine takeAny 6 (dN := some 23) (v := ?v2_6_7) rfl rfl (by kernel_rfl) (by kernel_rfl) (by kernel_rfl) (fun _ _ _ h => h) (.inl ⟨rfl, fun w' hSw => ?h2_6_7⟩) hS ?_
            case h2_6_7 => (go_simp; first | done | with_reducible rfl)
            simp only [Act.put, List.setIfInBounds_toArray, List.set_cons_zero, List.set_cons_succ]
            refine takeAny 7 (dN := some 24) (v := ?v2_7_8) rfl rfl (by kernel_rfl) (by kernel_rfl) (by kernel_rfl) (fun _ _ _ h => h) (.inl ⟨rfl, fun w' hSw => ?h2_7_8⟩) hS ?_
            case h2_7_8 => (go_simp; first | done | with_reducible rfl)
            simp only [Act.put, List.setIfInBounds_toArray, List.set_cons_zero, List.set_cons_succ]
            refine wpAnyH_ready (rs := [8]) (by kernel_rfl) (by simp) (AllReadyH.cons rfl (fun K hK => ?_) AllReadyH.nil)
            refine allocStep rfl rfl rfl hz ?_
            intro g8 w2_8 hG8 hlt hN8 hb
            have hne8_1 := Nat.ne_of_lt (Nat.lt_of_lt_of_le (blkLt hS.2.1) hG8)
            have hne8_2 := Nat.ne_of_lt (Nat.lt_of_lt_of_le (blkLt hS.2.2.1) hG8)
            have hne8_3 := Nat.ne_of_lt (Nat.lt_of_lt_of_le (blkLt hS.2.2.2) hG8)
            have hG8 := Nat.le_trans hS.1.size hG8
            simp only [Act.put, List.setIfInBounds_toArray, List.set_cons_zero, List.set_cons_succ]
            refine hK.out _ _ ⟨belW hS.1 hb, blkB hb hS.2.1 (blkLt hS.2.1), blkB hb hS.2.2.1 (blkLt hS.2.2.1), blkB hb hS.2.2.2 (blkLt hS.2.2.2)⟩ (fun hS => ?_)
            clear hb hK hlt
            refine wpAnyH_ready (rs := [9]) (by kernel_rfl) (by simp) (AllReadyH.cons rfl (fun K hK => ?_) AllReadyH.nil)
            refine storeStep rfl rfl rfl rfl rfl hN8 (by rw [arr_size]; exact size5) (by simp only [arr_size]) (arr_one _ _ _) ?_
            intro w2_9 j1 j2 j3 j4
            refine hK.out _ _ ⟨belT hS.1 j3 hG8, (j2 _ hne8_1).trans hS.2.1, (j2 _ hne8_2).trans hS.2.2.1, (j2 _ hne8_3).trans hS.2.2.2⟩ (fun hS => ?_)
            have hN8 := j1
            clear j1 j2 j3 j4 hK
            refine takeAny 10 (dN := some 8) (v := ?v2_10_11) rfl rfl (by kernel_rfl) (by kernel_rfl) (by kernel_rfl) (fun _ _ _ h => h) (.inl ⟨rfl, fun w' hSw => ?h2_10_11⟩) hS ?_
            case h2_10_11 => (go_simp; first | done | with_reducible rfl)
            simp only [Act.put, List.setIfInBounds_toArray, List.set_cons_zero, List.set_cons_succ]
            refine wpAnyH_done (by kernel_rfl) ?_ _
            (go_wp2_with fail; go_meet; exact ⟨g8, rfl, rfl, hS.1, hS.2.2.2, hN8⟩)
          · refine allocStep rfl rfl rfl hz ?_
            intro g8 w2_8 hG8 hlt hN8 hb
            have hne8_1 := Nat.ne_of_lt (Nat.lt_of_lt_of_le (blkLt hS.2.1) hG8)
            have hne8_2 := Nat.ne_of_lt (Nat.lt_of_lt_of_le (blkLt hS.2.2.1) hG8)
            have hne8_3 := Nat.ne_of_lt (Nat.lt_of_lt_of_le (blkLt hS.2.2.2) hG8)
            have hG8 := Nat.le_trans hS.1.size hG8
            simp only [Act.put, List.setIfInBounds_toArray, List.set_cons_zero, List.set_cons_succ]
            refine hK.out _ _ ⟨belW hS.1 hb, blkB hb hS.2.1 (blkLt hS.2.1), blkB hb hS.2.2.1 (blkLt hS.2.2.1), blkB hb hS.2.2.2 (blkLt hS.2.2.2)⟩ (fun hS => ?_)
            clear hb hK hlt
            refine wpAnyH_ready (rs := [4]) (by kernel_rfl) (by simp) (AllReadyH.cons rfl (fun K hK => ?_) AllReadyH.nil)
            go_simp
            go_at_call 16
            refine (sidesAt L hL x y _).mono ?_
            rintro e w2_4 ⟨rfl, hb⟩
            have hN8 := blkB hb hN8 (blkLt hN8)
            refine hK.out _ _ ⟨belW hS.1 hb, blkB hb hS.2.1 (blkLt hS.2.1), blkB hb hS.2.2.1 (blkLt hS.2.2.1), blkB hb hS.2.2.2 (blkLt hS.2.2.2)⟩ (fun hS => ?_)
            clear hb hK
            refine takeAny 5 (dN := some 17) (v := ?v2_5_13) rfl rfl (by kernel_rfl) (by kernel_rfl) (by kernel_rfl) (fun _ _ _ h => h) (.inl ⟨rfl, fun w' hSw => ?h2_5_13⟩) hS ?_
            case h2_5_13 => (go_simp; first | done | with_reducible rfl)
            simp only [Act.put, List.setIfInBounds_toArray, List.set_cons_zero, List.set_cons_succ]
            refine takeAny 6 (dN := some 23) (v := ?v2_6_14) rfl rfl (by kernel_rfl) (by kernel_rfl) (by kernel_rfl) (fun _ _ _ h => h) (.inl ⟨rfl, fun w' hSw => ?h2_6_14⟩) hS ?_
            case h2_6_14 => (go_simp; first | done | with_reducible rfl)
            simp only [Act.put, List.setIfInBounds_toArray, List.set_cons_zero, List.set_cons_succ]
            refine takeAny 7 (dN := some 24) (v := ?v2_7_15) rfl rfl (by kernel_rfl) (by kernel_rfl) (by kernel_rfl) (fun _ _ _ h => h) (.inl ⟨rfl, fun w' hSw => ?h2_7_15⟩) hS ?_
            case h2_7_15 => (go_simp; first | done | with_reducible rfl)
            simp only [Act.put, List.setIfInBounds_toArray, List.set_cons_zero, List.set_cons_succ]
            refine wpAnyH_ready (rs := [9]) (by kernel_rfl) (by simp) (AllReadyH.cons rfl (fun K hK => ?_) AllReadyH.nil)
            refine storeStep rfl rfl rfl rfl rfl hN8 (by rw [arr_size]; exact size5) (by simp only [arr_size]) (arr_one _ _ _) ?_
            intro w2_9 j1 j2 j3 j4
            refine hK.out _ _ ⟨belT hS.1 j3 hG8, (j2 _ hne8_1).trans hS.2.1, (j2 _ hne8_2).trans hS.2.2.1, (j2 _ hne8_3).trans hS.2.2.2⟩ (fun hS => ?_)
            have hN8 := j1
            clear j1 j2 j3 j4 hK
            refine takeAny 10 (dN := some 8) (v := ?v2_10_17) rfl rfl (by kernel_rfl) (by kernel_rfl) (by kernel_rfl) (fun _ _ _ h => h) (.inl ⟨rfl, fun w' hSw => ?h2_10_17⟩) hS ?_
            case h2_10_17 => (go_simp; first | done | with_reducible rfl)
            simp only [Act.put, List.setIfInBounds_toArray, List.set_cons_zero, List.set_cons_succ]
            refine wpAnyH_done (by kernel_rfl) ?_ _
            (go_wp2_with fail; go_meet; exact ⟨g8, rfl, rfl, hS.1, hS.2.2.2, hN8⟩)
        · refine allocStep rfl rfl rfl hz ?_
          intro g8 w2_8 hG8 hlt hN8 hb
          have hne8_1 := Nat.ne_of_lt (Nat.lt_of_lt_of_le (blkLt hS.2.1) hG8)
          have hne8_2 := Nat.ne_of_lt (Nat.lt_of_lt_of_le (blkLt hS.2.2.1) hG8)
          have hne8_3 := Nat.ne_of_lt (Nat.lt_of_lt_of_le (blkLt hS.2.2.2) hG8)
          have hG8 := Nat.le_trans hS.1.size hG8
          simp only [Act.put, List.setIfInBounds_toArray, List.set_cons_zero, List.set_cons_succ]
          refine hK.out _ _ ⟨belW hS.1 hb, blkB hb hS.2.1 (blkLt hS.2.1), blkB hb hS.2.2.1 (blkLt hS.2.2.1), blkB hb hS.2.2.2 (blkLt hS.2.2.2)⟩ (fun hS => ?_)
          clear hb hK hlt
          refine wpAnyH_ready (rs := [3]) (by kernel_rfl) (by simp) (AllReadyH.cons rfl (fun K hK => ?_) AllReadyH.nil)
          go_simp
          go_at_call 15
          refine (toCell _ _ _).mono ?_
          rintro e w2_3 ⟨rfl, hb⟩
          have hN8 := blkB hb hN8 (blkLt hN8)
          refine hK.out _ _ ⟨belW hS.1 hb, blkB hb hS.2.1 (blkLt hS.2.1), blkB hb hS.2.2.1 (blkLt hS.2.2.1), blkB hb hS.2.2.2 (blkLt hS.2.2.2)⟩ (fun hS => ?_)
          clear hb hK
          refine wpAnyH_ready (rs := [4]) (by kernel_rfl) (by simp) (AllReadyH.cons rfl (fun K hK => ?_) AllReadyH.nil)
          go_simp
          go_at_call 16
          refine (sidesAt L hL x y _).mono ?_
          rintro e w2_4 ⟨rfl, hb⟩
          have hN8 := blkB hb hN8 (blkLt hN8)
          refine hK.out _ _ ⟨belW hS.1 hb, blkB hb hS.2.1 (blkLt hS.2.1), blkB hb hS.2.2.1 (blkLt hS.2.2.1), blkB hb hS.2.2.2 (blkLt hS.2.2.2)⟩ (fun hS => ?_)
          clear hb hK
          refine takeAny 5 (dN := some 17) (v := ?v2_5_20) rfl rfl (by kernel_rfl) (by kernel_rfl) (by kernel_rfl) (fun _ _ _ h => h) (.inl ⟨rfl, fun w' hSw => ?h2_5_20⟩) hS ?_
          case h2_5_20 => (go_simp; first | done | with_reducible rfl)
          simp only [Act.put, List.setIfInBounds_toArray, List.set_cons_zero, List.set_cons_succ]
          refine takeAny 6 (dN := some 23) (v := ?v2_6_21) rfl rfl (by kernel_rfl) (by kernel_rfl) (by kernel_rfl) (fun _ _ _ h => h) (.inl ⟨rfl, fun w' hSw => ?h2_6_21⟩) hS ?_
          case h2_6_21 => (go_simp; first | done | with_reducible rfl)
          simp only [Act.put, List.setIfInBounds_toArray, List.set_cons_zero, List.set_cons_succ]
          refine takeAny 7 (dN := some 24) (v := ?v2_7_22) rfl rfl (by kernel_rfl) (by kernel_rfl) (by kernel_rfl) (fun _ _ _ h => h) (.inl ⟨rfl, fun w' hSw => ?h2_7_22⟩) hS ?_
          case h2_7_22 => (go_simp; first | done | with_reducible rfl)
          simp only [Act.put, List.setIfInBounds_toArray, List.set_cons_zero, List.set_cons_succ]
          refine wpAnyH_ready (rs := [9]) (by kernel_rfl) (by simp) (AllReadyH.cons rfl (fun K hK => ?_) AllReadyH.nil)
          refine storeStep rfl rfl rfl rfl rfl hN8 (by rw [arr_size]; exact size5) (by simp only [arr_size]) (arr_one _ _ _) ?_
          intro w2_9 j1 j2 j3 j4
          refine hK.out _ _ ⟨belT hS.1 j3 hG8, (j2 _ hne8_1).trans hS.2.1, (j2 _ hne8_2).trans hS.2.2.1, (j2 _ hne8_3).trans hS.2.2.2⟩ (fun hS => ?_)
          have hN8 := j1
          clear j1 j2 j3 j4 hK
          refine takeAny 10 (dN := some 8) (v := ?v2_10_24) rfl rfl (by kernel_rfl) (by kernel_rfl) (by kernel_rfl) (fun _ _ _ h => h) (.inl ⟨rfl, fun w' hSw => ?h2_10_24⟩) hS ?_
          case h2_10_24 => (go_simp; first | done | with_reducible rfl)
          simp only [Act.put, List.setIfInBounds_toArray, List.set_cons_zero, List.set_cons_succ]
          refine wpAnyH_done (by kernel_rfl) ?_ _
          (go_wp2_with fail; go_meet; exact ⟨g8, rfl, rfl, hS.1, hS.2.2.2, hN8⟩)
      · refine allocStep rfl rfl rfl hz ?_
        intro g8 w2_8 hG8 hlt hN8 hb
        have hne8_1 := Nat.ne_of_lt (Nat.lt_of_lt_of_le (blkLt hS.2.1) hG8)
        have hne8_2 := Nat.ne_of_lt (Nat.lt_of_lt_of_le (blkLt hS.2.2.1) hG8)
        have hne8_3 := Nat.ne_of_lt (Nat.lt_of_lt_of_le (blkLt hS.2.2.2) hG8)
        have hG8 := Nat.le_trans hS.1.size hG8
        simp only [Act.put, List.setIfInBounds_toArray, List.set_cons_zero, List.set_cons_succ]
        refine hK.out _ _ ⟨belW hS.1 hb, blkB hb hS.2.1 (blkLt hS.2.1), blkB hb hS.2.2.1 (blkLt hS.2.2.1), blkB hb hS.2.2.2 (blkLt hS.2.2.2)⟩ (fun hS => ?_)
        clear hb hK hlt
        refine wpAnyH_ready (rs := [1]) (by kernel_rfl) (by simp) (AllReadyH.cons rfl (fun K hK => ?_) AllReadyH.nil)
        go_simp
        go_at_call 9
        refine (toLawn _ _).mono ?_
        rintro e w2_1 ⟨rfl, hb⟩
        have hN8 := blkB hb hN8 (blkLt hN8)
        refine hK.out _ _ ⟨belW hS.1 hb, blkB hb hS.2.1 (blkLt hS.2.1), blkB hb hS.2.2.1 (blkLt hS.2.2.1), blkB hb hS.2.2.2 (blkLt hS.2.2.2)⟩ (fun hS => ?_)
        clear hb hK
        refine wpAnyH_ready (rs := [3]) (by kernel_rfl) (by simp) (AllReadyH.cons rfl (fun K hK => ?_) AllReadyH.nil)
        go_simp
        go_at_call 15
        refine (toCell _ _ _).mono ?_
        rintro e w2_3 ⟨rfl, hb⟩
        have hN8 := blkB hb hN8 (blkLt hN8)
        refine hK.out _ _ ⟨belW hS.1 hb, blkB hb hS.2.1 (blkLt hS.2.1), blkB hb hS.2.2.1 (blkLt hS.2.2.1), blkB hb hS.2.2.2 (blkLt hS.2.2.2)⟩ (fun hS => ?_)
        clear hb hK
        refine wpAnyH_ready (rs := [4]) (by kernel_rfl) (by simp) (AllReadyH.cons rfl (fun K hK => ?_) AllReadyH.nil)
        go_simp
        go_at_call 16
        refine (sidesAt L hL x y _).mono ?_
        rintro e w2_4 ⟨rfl, hb⟩
        have hN8 := blkB hb hN8 (blkLt hN8)
        refine hK.out _ _ ⟨belW hS.1 hb, blkB hb hS.2.1 (blkLt hS.2.1), blkB hb hS.2.2.1 (blkLt hS.2.2.1), blkB hb hS.2.2.2 (blkLt hS.2.2.2)⟩ (fun hS => ?_)
        clear hb hK
        refine takeAny 5 (dN := some 17) (v := ?v2_5_28) rfl rfl (by kernel_rfl) (by kernel_rfl) (by kernel_rfl) (fun _ _ _ h => h) (.inl ⟨rfl, fun w' hSw => ?h2_5_28⟩) hS ?_
        case h2_5_28 => (go_simp; first | done | with_reducible rfl)
        simp only [Act.put, List.setIfInBounds_toArray, List.set_cons_zero, List.set_cons_succ]
        refine takeAny 6 (dN := some 23) (v := ?v2_6_29) rfl rfl (by kernel_rfl) (by kernel_rfl) (by kernel_rfl) (fun _ _ _ h => h) (.inl ⟨rfl, fun w' hSw => ?h2_6_29⟩) hS ?_
        case h2_6_29 => (go_simp; first | done | with_reducible rfl)
        simp only [Act.put, List.setIfInBounds_toArray, List.set_cons_zero, List.set_cons_succ]
        refine takeAny 7 (dN := some 24) (v := ?v2_7_30) rfl rfl (by kernel_rfl) (by kernel_rfl) (by kernel_rfl) (fun _ _ _ h => h) (.inl ⟨rfl, fun w' hSw => ?h2_7_30⟩) hS ?_
        case h2_7_30 => (go_simp; first | done | with_reducible rfl)
        simp only [Act.put, List.setIfInBounds_toArray, List.set_cons_zero, List.set_cons_succ]
        refine wpAnyH_ready (rs := [9]) (by kernel_rfl) (by simp) (AllReadyH.cons rfl (fun K hK => ?_) AllReadyH.nil)
        refine storeStep rfl rfl rfl rfl rfl hN8 (by rw [arr_size]; exact size5) (by simp only [arr_size]) (arr_one _ _ _) ?_
        intro w2_9 j1 j2 j3 j4
        refine hK.out _ _ ⟨belT hS.1 j3 hG8, (j2 _ hne8_1).trans hS.2.1, (j2 _ hne8_2).trans hS.2.2.1, (j2 _ hne8_3).trans hS.2.2.2⟩ (fun hS => ?_)
        have hN8 := j1
        clear j1 j2 j3 j4 hK
        refine takeAny 10 (dN := some 8) (v := ?v2_10_32) rfl rfl (by kernel_rfl) (by kernel_rfl) (by kernel_rfl) (fun _ _ _ h => h) (.inl ⟨rfl, fun w' hSw => ?h2_10_32⟩) hS ?_
        case h2_10_32 => (go_simp; first | done | with_reducible rfl)
        simp only [Act.put, List.setIfInBounds_toArray, List.set_cons_zero, List.set_cons_succ]
        refine wpAnyH_done (by kernel_rfl) ?_ _
        (go_wp2_with fail; go_meet; exact ⟨g8, rfl, rfl, hS.1, hS.2.2.2, hN8⟩)
    case rest =>
      obtain ⟨g2, rfl, rfl, hB, h3, h4⟩ := hcut
      go_wp2_with (first | ((with_reducible refine atDst 25 rfl ?_); refine loadRow 25 rfl rfl rfl rfl Try.underlying41 rfl h4 (by rw [arr_size]; exact size5) ?_) | ((with_reducible refine atDst 26 rfl ?_); refine loadRow 26 rfl rfl rfl rfl Try.underlying41 rfl h3 (by rw [arr_size]; exact size5) ?_) | (go_at_call 17; refine (eqSides _ _).mono ?_; rintro e w5 ⟨rfl, hb5⟩))
      go_ret
      exact ⟨rfl, belW hB hb5⟩
end Go.Proofs.Ytchhjdjdhlfhlaa.L
