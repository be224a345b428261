/- Walks: which levels are valid, as the reference tells it; the law. -/
import Derived.Test.YtchhjdjdhlfhlaaLevels
namespace Go.Proofs.Ytchhjdjdhlfhlaa.L
set_option linter.unusedSimpArgs false
set_option linter.unusedVariables false
open Go.RowKit Go.Proofs.Ytchhjdjdhlfhlaa.B

/-- Is a number a level? -/
def lvB (n : Int) : Bool := decide (-9 ≤ n) && decide (n ≤ 9)
set_option maxRecDepth 100000 in
set_option maxHeartbeats 1000000 in
theorem sLevel (n : Int) (b : Bool) (hb : lvB n = b) (w : World) :
    Calls Try.prog 41 #[.int .i64 n] w fun e w' => e = .returned (.bool b) ∧ w' = w := by
  subst hb
  rcases twoways (decide (-9 ≤ n)) with b1 | b1 <;> rcases twoways (decide (n ≤ 9)) with b2 | b2 <;>
  · go_enter Try.func41, Try.ntmps41
    go_wp2
    go_ret
    exact ⟨by simp [lvB, b1, b2], rfl⟩

set_option maxRecDepth 100000 in
set_option maxHeartbeats 2000000 in
theorem sLevels (L : Lw) (hL : Lw.Ok L) (v : Nat → Int) (hv : ∀ i, i < 100 → -128 ≤ v i ∧ v i ≤ 127) (gl gv : Nat) (tl tv : TypeId) (w : World) (hl : w.heap[gl]? = some (.cells L.cells tl (0, 0))) (hg : w.heap[gv]? = some (.cells (arr .i8 100 v) tv (0, 0))) :
    Calls Try.prog 22 #[.pointer (some ⟨gl, 0, none⟩), .pointer (some ⟨gv, 0, none⟩)] w fun e w' => e = .returned (.bool (levB L v)) ∧ Below w.heap.size w w' := by
  have hll := blkLt hl
  have hlg := blkLt hg
  have HV := fun (w : World) hw => sOk L hL gl tl w hw
  rcases twoways (validB L) with bv | bv
  · rw [bv] at HV
    have HV := Lib.hid HV
    go_enter Try.func22, Try.ntmps22
    go_wp2_with (first | (go_at_call 27; refine (HV.out _ hl).mono ?_; rintro e w1 ⟨rfl, hb⟩))
    go_ret
    exact ⟨by unfold levB; rw [bv]; rfl, hb⟩
  rw [bv] at HV
  have HV := Lib.hid HV
  have BV := Lib.hid bv
  clear bv
  go_enter Try.func22, Try.ntmps22
  go_wp2_with (first | (go_at_call 27; refine (HV.out _ hl).mono ?_; rintro e w1 ⟨rfl, hb⟩))
  go_loopw [5] (fun y wr => ∃ k : Nat, k ≤ 10 ∧ y = .int .i8 k ∧ (∀ i, i < k * 10 → levOk L v i = true) ∧ Below w.heap.size w wr) (fun y _ => 10 - (intOf y).toNat)
  case atStart => exact ⟨0, by omega, rfl, fun i hi => by omega, hb⟩
  case round =>
    obtain ⟨k, hk, rfl, hall, hB⟩ := hrel
    by_cases hlt : k < 10
    · have hd : decide ((k : Int) < 10) = true := by simp; omega
      go_wp2
      go_loopw [6] (fun x wr => ∃ j : Nat, j ≤ 10 ∧ x = .int .i8 j ∧ (∀ i, i < k * 10 + j → levOk L v i = true) ∧ Below w.heap.size w wr) (fun x _ => 10 - (intOf x).toNat)
      case atStart => exact ⟨0, by omega, rfl, hall, hB⟩
      case round =>
        obtain ⟨j, hj, rfl, hall, hB⟩ := hrel
        by_cases hjt : j < 10
        · have hd2 : decide ((j : Int) < 10) = true := by simp; omega
          have hn : k * 10 + j < 100 := by omega
          have HF := levOk_at L v (k := k) hjt
          obtain ⟨r0, r1⟩ := hv _ hn
          obtain ⟨n, hn2⟩ : ∃ n, n = v (k * 10 + j) := ⟨_, rfl⟩
          have g2 := arr_get (k := .i8) (c := v) hn
          rw [← hn2] at g2 HF r0 r1
          have hgr := blkB hB hg hlg
          have hlr := blkB hB hl hll
          have c0 : wr.cell? ⟨gv, k * 10 + j, none⟩ = some (.int .i8 n) := (blkC hgr _).trans g2
          have x1 : IntKind.i64.wrap n = n := IntWalk.i64_in _ (by omega)
          clear hn2 g2 r0 r1
          rw [← Bool.and_assoc] at HF
          have HF := Lib.hid HF
          rcases twoways (lvB n) with b0 | b0
          · go_wp2_with (first | (go_at_call 41; refine (sLevel n false b0 _).mono ?_; rintro e w1 ⟨rfl, rfl⟩))
            go_ret
            exact ⟨by rw [levB_bad hn (by rw [HF.out]; unfold lvB at b0; rw [b0]; rfl)]; rfl, by first | exact hB | exact belD hB⟩
          · rcases twoways (n != 0) with b2 | b2
            · go_wp2_with (first | (go_at_call 41; refine (sLevel n true b0 _).mono ?_; rintro e w1 ⟨rfl, rfl⟩))
              have hok : levOk L v (k * 10 + j) = true := by rw [HF.out]; unfold lvB at b0; rw [b0]; simp at b2; simp [b2]
              exact ⟨⟨j + 1, by omega, by go_num, fun i hi => (by by_cases e : i = k * 10 + j; exact e ▸ hok; exact hall i (by omega)), by first | exact hB | exact belD hB⟩, by simp [intOf]; omega⟩
            · have HG := fun (w : World) hw => sGrass L hL j k (fun _ => ⟨by omega, by omega⟩) (by omega) (by omega) (by omega) (by omega) gl tl w hw
              rcases twoways (isB L 0 j k) with b3 | b3
              · rw [b3] at HG
                have HG := Lib.hid HG
                go_wp2_with (first | (go_at_call 41; refine (sLevel n true b0 _).mono ?_; rintro e w1 ⟨rfl, rfl⟩) | (go_at_call 28; refine (HG.out _ (by first | exact hlr | exact blkD hlr)).mono ?_; rintro e w2 ⟨rfl, hb2⟩))
                go_ret
                exact ⟨by rw [levB_bad hn (by rw [HF.out]; simp at b2; simp [b2, b3])]; rfl, belW (by first | exact hB | exact belD hB) hb2⟩
              · rw [b3] at HG
                have HG := Lib.hid HG
                go_wp2_with (first | (go_at_call 41; refine (sLevel n true b0 _).mono ?_; rintro e w1 ⟨rfl, rfl⟩) | (go_at_call 28; refine (HG.out _ (by first | exact hlr | exact blkD hlr)).mono ?_; rintro e w2 ⟨rfl, hb2⟩))
                have hok : levOk L v (k * 10 + j) = true := by rw [HF.out]; unfold lvB at b0; rw [b0, b3]; simp
                have hB2 : Below w.heap.size w w2 := belW (by first | exact hB | exact belD hB) hb2
                refine ⟨?_, by simp [intOf]; omega⟩
                first
                  | exact ⟨j + 1, by omega, by go_num, fun i hi => (by by_cases e : i = k * 10 + j; exact e ▸ hok; exact hall i (by omega)), hB2⟩
                  | ((repeat apply Exists.intro); exact ⟨⟨j + 1, by omega, by go_num, fun i hi => (by by_cases e : i = k * 10 + j; exact e ▸ hok; exact hall i (by omega)), hB2⟩, rfl⟩)
        · go_wp2
          exact ⟨⟨k + 1, by omega, by go_num, fun i hi => hall i (by omega), hB⟩, by simp [intOf]; omega⟩
    · go_wp2
      go_ret
      exact ⟨by rw [levB_good (fun i hi => hall i (by omega)), BV.out]; rfl, hB⟩

set_option maxRecDepth 100000 in
set_option maxHeartbeats 1000000 in
theorem sValidLevels (L : Lw) (hL : Lw.Ok L) (v : Nat → Int) (hv : ∀ i, i < 100 → -128 ≤ v i ∧ v i ≤ 127) (w : World) :
    Calls Try.prog 8 #[.agg L.cells, .agg (arr .i8 100 v)] w fun e w' => e = .returned (.bool (levB L v)) ∧ Below w.heap.size w w' := by
  go_enter Try.func8, Try.ntmps8
  go_wp2_with (first | (go_at_call 22; refine (sLevels L hL v hv _ _ _ _ _ (blkA (blkN rfl)) (blkN (by simp))).mono ?_; rintro e w1 ⟨rfl, hb⟩))
  go_ret
  exact ⟨rfl, belW (belA (belA (Below.refl _ _))) hb⟩

set_option maxRecDepth 100000 in
set_option maxHeartbeats 2000000 in
theorem lawValidLevels (L : Lw) (hL : Lw.Ok L) (v : Nat → Int) (hv : ∀ i, i < 100 → -128 ≤ v i ∧ v i ≤ 127) (w : World) :
    Calls Try.prog 3 #[.agg L.cells, .agg (arr .i8 100 v)] w fun e w' => e = .returned (.bool true) ∧ Below w.heap.size w w' := by
  go_enter Try.func3, Try.ntmps3
  go_wp2
  refine wp_region_held_drew (S := fun w' => Below w.heap.size w w' ∧ w'.heap[w.heap.size]? = some (.cells L.cells 26 (0, 0)) ∧ w'.heap[w.heap.size + 1]? = some (.cells (arr .i8 100 v) 28 (0, 0))) (by kernel_rfl) ⟨belD (belA (belA (Below.refl _ _))), blkD (blkA (blkN rfl)), blkD (blkN (by simp))⟩ (fun hS => ?_)
  refine takeRow 0 rfl rfl (by kernel_rfl) (by kernel_rfl) (by kernel_rfl) (fun _ _ _ h => h) rfl rfl rfl Try.underlying26 rfl (fun w h => h.2.1) (by rw [Lw.size]; kernel_rfl) hS ?_
  simp only [Act.put, List.setIfInBounds_toArray, List.set_cons_zero, List.set_cons_succ]
  refine takeRow 2 rfl rfl (by kernel_rfl) (by kernel_rfl) (by kernel_rfl) (fun _ _ _ h => h) rfl rfl rfl Try.underlying28 rfl (fun w h => h.2.2) (by rw [arr_size]; exact size100i) hS ?_
  simp only [Act.put, List.setIfInBounds_toArray, List.set_cons_zero, List.set_cons_succ]
  refine wpAnyH_ready (rs := [1]) (by kernel_rfl) (by simp) (AllReadyH.cons rfl (fun K hK => ?_) AllReadyH.nil)
  go_simp
  go_at_call 9
  refine (toLawn _ _).mono ?_
  rintro e w1_1 ⟨rfl, hb⟩
  refine hK.out _ _ ⟨belW hS.1 hb, blkB hb hS.2.1 (blkLt hS.2.1), blkB hb hS.2.2 (blkLt hS.2.2)⟩ (fun hS => ?_)
  clear hb hK
  refine wpAnyH_ready (rs := [3]) (by kernel_rfl) (by simp) (AllReadyH.cons rfl (fun K hK => ?_) AllReadyH.nil)
  go_simp
  go_at_call 10
  refine (toLevels _ _).mono ?_
  rintro e w1_3 ⟨rfl, hb⟩
  refine hK.out _ _ ⟨belW hS.1 hb, blkB hb hS.2.1 (blkLt hS.2.1), blkB hb hS.2.2 (blkLt hS.2.2)⟩ (fun hS => ?_)
  clear hb hK
  refine wpAnyH_ready (rs := [4]) (by kernel_rfl) (by simp) (AllReadyH.cons rfl (fun K hK => ?_) AllReadyH.nil)
  go_simp
  go_at_call 8
  refine (sValidLevels L hL v hv _).mono ?_
  rintro e w1_4 ⟨rfl, hb⟩
  refine hK.out _ _ ⟨belW hS.1 hb, blkB hb hS.2.1 (blkLt hS.2.1), blkB hb hS.2.2 (blkLt hS.2.2)⟩ (fun hS => ?_)
  clear hb hK
  refine takeAny 5 (dN := some 5) (v := ?v1_5_6) rfl rfl (by kernel_rfl) (by kernel_rfl) (by kernel_rfl) (fun _ _ _ h => h) (.inl ⟨rfl, fun w' hSw => ?h1_5_6⟩) hS ?_
  case h1_5_6 => (go_simp; first | done | with_reducible rfl)
  simp only [Act.put, List.setIfInBounds_toArray, List.set_cons_zero, List.set_cons_succ]
  refine wpAnyH_done (by kernel_rfl) ?_ _
  go_wp2
  refine wp_region_held_drew (S := fun w' => Below w.heap.size w w' ∧ w'.heap[w.heap.size]? = some (.cells L.cells 26 (0, 0)) ∧ w'.heap[w.heap.size + 1]? = some (.cells (arr .i8 100 v) 28 (0, 0))) (by kernel_rfl) ⟨belD hS.1, blkD hS.2.1, blkD hS.2.2⟩ (fun hS => ?_)
  refine takeRow 0 rfl rfl (by kernel_rfl) (by kernel_rfl) (by kernel_rfl) (fun _ _ _ h => h) rfl rfl rfl Try.underlying26 rfl (fun w h => h.2.1) (by rw [Lw.size]; kernel_rfl) hS ?_
  simp only [Act.put, List.setIfInBounds_toArray, List.set_cons_zero, List.set_cons_succ]
  refine takeRow 2 rfl rfl (by kernel_rfl) (by kernel_rfl) (by kernel_rfl) (fun _ _ _ h => h) rfl rfl rfl Try.underlying28 rfl (fun w h => h.2.2) (by rw [arr_size]; exact size100i) hS ?_
  simp only [Act.put, List.setIfInBounds_toArray, List.set_cons_zero, List.set_cons_succ]
  refine wpAnyH_ready (rs := [1]) (by kernel_rfl) (by simp) (AllReadyH.cons rfl (fun K hK => ?_) AllReadyH.nil)
  go_simp
  go_at_call 9
  refine (toLawn _ _).mono ?_
  rintro e w2_1 ⟨rfl, hb⟩
  refine hK.out _ _ ⟨belW hS.1 hb, blkB hb hS.2.1 (blkLt hS.2.1), blkB hb hS.2.2 (blkLt hS.2.2)⟩ (fun hS => ?_)
  clear hb hK
  refine wpAnyH_ready (rs := [3]) (by kernel_rfl) (by simp) (AllReadyH.cons rfl (fun K hK => ?_) AllReadyH.nil)
  go_simp
  go_at_call 10
  refine (toLevels _ _).mono ?_
  rintro e w2_3 ⟨rfl, hb⟩
  refine hK.out _ _ ⟨belW hS.1 hb, blkB hb hS.2.1 (blkLt hS.2.1), blkB hb hS.2.2 (blkLt hS.2.2)⟩ (fun hS => ?_)
  clear hb hK
  refine wpAnyH_ready (rs := [4]) (by kernel_rfl) (by simp) (AllReadyH.cons rfl (fun K hK => ?_) AllReadyH.nil)
  go_simp
  go_at_call 11
  refine (validLevels L hL v hv _).mono ?_
  rintro e w2_4 ⟨rfl, hb⟩
  refine hK.out _ _ ⟨belW hS.1 hb, blkB hb hS.2.1 (blkLt hS.2.1), blkB hb hS.2.2 (blkLt hS.2.2)⟩ (fun hS => ?_)
  clear hb hK
  refine takeAny 5 (dN := some 6) (v := ?v2_5_6) rfl rfl (by kernel_rfl) (by kernel_rfl) (by kernel_rfl) (fun _ _ _ h => h) (.inl ⟨rfl, fun w' hSw => ?h2_5_6⟩) hS ?_
  case h2_5_6 => (go_simp; first | done | with_reducible rfl)
  simp only [Act.put, List.setIfInBounds_toArray, List.set_cons_zero, List.set_cons_succ]
  refine wpAnyH_done (by kernel_rfl) ?_ _
  go_wp2
  go_ret
  exact ⟨rfl, hS.1⟩
end Go.Proofs.Ytchhjdjdhlfhlaa.L
