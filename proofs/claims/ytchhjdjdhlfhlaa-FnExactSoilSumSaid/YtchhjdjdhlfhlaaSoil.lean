/- Walks: the sum of all levels; it is told over the lawn's cells by the one, over ten by ten by the other. -/
import Derived.Test.YtchhjdjdhlfhlaaLawLevels
import Derived.Test.YtchhjdjdhlfhlaaAllS
namespace Go.Proofs.Ytchhjdjdhlfhlaa.L
set_option linter.unusedSimpArgs false
set_option linter.unusedVariables false
open Go.RowKit Go.Proofs.Ytchhjdjdhlfhlaa.B

def sumA (v : Nat → Int) : Nat → Int
  | 0 => 0
  | k + 1 => sumA v k + v k
def sumI (v : Nat → Int) (W : Nat) : Nat → Int
  | 0 => 0
  | k + 1 => sumI v W k + v ((k / W) * 10 + k % W)
def rowS (v : Nat → Int) (y : Nat) : Nat → Int
  | 0 => 0
  | k + 1 => rowS v y k + v (y * 10 + k)
theorem sumA_row (v : Nat → Int) (y : Nat) : ∀ x, sumA v (y * 10 + x) = sumA v (y * 10) + rowS v y x
  | 0 => by simp [rowS]
  | x + 1 => by rw [← Nat.add_assoc, sumA, sumA_row v y x, rowS]; omega
theorem sumI_row (v : Nat → Int) (W y : Nat) : ∀ x, x ≤ W → sumI v W (y * W + x) = sumI v W (y * W) + rowS v y x
  | 0, _ => by simp [rowS]
  | x + 1, h => by
    rw [← Nat.add_assoc, sumI, sumI_row v W y x (by omega), rowS]
    rw [show y * W + x = x + W * y by rw [Nat.mul_comm]; omega, Nat.add_mul_mod_self_left, Nat.mod_eq_of_lt (show x < W by omega), Nat.add_mul_div_left _ _ (by omega), Nat.div_eq_of_lt (show x < W by omega), Nat.zero_add]
    omega
theorem rowS_zero (v : Nat → Int) (y n : Nat) : ∀ m, (∀ x, n ≤ x → x < n + m → v (y * 10 + x) = 0) → rowS v y (n + m) = rowS v y n
  | 0, _ => rfl
  | m + 1, h => by rw [← Nat.add_assoc, rowS, rowS_zero v y n m (fun x h1 h2 => h x h1 (by omega)), h (n + m) (by omega) (by omega)]; omega
theorem sum_in (v : Nat → Int) (W H : Nat) (hW : W ≤ 10) (h : ∀ x y, x < 10 → y < H → W ≤ x → v (y * 10 + x) = 0) : ∀ y, y ≤ H → sumA v (y * 10) = sumI v W (y * W)
  | 0, _ => by simp [sumA, sumI]
  | y + 1, hy => by
    rw [show (y + 1) * 10 = y * 10 + 10 by omega, sumA_row, Nat.add_mul y 1 W, Nat.one_mul, sumI_row v W y W (Nat.le_refl _), sum_in v W H hW h y (by omega)]
    have e := rowS_zero v y W (10 - W) (fun x h1 h2 => h x y (by omega) (by omega) h1)
    rw [show W + (10 - W) = 10 by omega] at e
    rw [e]
theorem sum_out (v : Nat → Int) (H : Nat) (h : ∀ x y, x < 10 → y < 10 → H ≤ y → v (y * 10 + x) = 0) : ∀ n, H + n ≤ 10 → sumA v ((H + n) * 10) = sumA v (H * 10)
  | 0, _ => rfl
  | n + 1, hn => by
    rw [show (H + (n + 1)) * 10 = (H + n) * 10 + 10 by omega, sumA_row, sum_out v H h n (by omega)]
    have e := rowS_zero v (H + n) 0 10 (fun x _ h2 => h x (H + n) (by omega) (by omega) (by omega))
    rw [show 0 + 10 = 10 from rfl] at e
    rw [e, rowS]; omega
theorem sum_all {L : Lw} {v : Nat → Int} {W H : Nat} (hw : L.wide = W) (hh : L.high = H) (hW : W ≤ 10) (hH : H ≤ 10) (hl : levB L v = true) : sumA v 100 = sumI v W (W * H) := by
  have hz : ∀ x y : Nat, x < 10 → y < 10 → (W ≤ x ∨ H ≤ y) → v (y * 10 + x) = 0 := fun x y hx hy h => by
    by_cases e : levOk L v (y * 10 + x) = true
    · rw [levOk_at L v hx] at e
      simp only [Bool.and_eq_true, Bool.or_eq_true, decide_eq_true_eq, beq_iff_eq, isB, hasB] at e
      rcases e.2.2 with e | e
      · exact e
      · omega
    · have := levB_bad (L := L) (v := v) (i := y * 10 + x) (by omega) (by simpa using e)
      rw [this] at hl; cases hl
  have h1 := sum_in v W H hW (fun x y hx hy h => hz x y hx (by omega) (.inl h)) H (Nat.le_refl _)
  have h2 := sum_out v H (fun x y hx hy h => hz x y hx hy (.inr h)) (10 - H) (by omega)
  rw [show (H + (10 - H)) * 10 = 100 by omega] at h2
  rw [h2, h1, Nat.mul_comm]
theorem sumI_bd {v : Nat → Int} (hv : ∀ i, i < 100 → -128 ≤ v i ∧ v i ≤ 127) {W H : Nat} (hW : W ≤ 10) (hH : H ≤ 10) : ∀ k, k ≤ W * H → -128 * (k : Int) ≤ sumI v W k ∧ sumI v W k ≤ 128 * k
  | 0, _ => by simp [sumI]
  | k + 1, h => by
    have h1 := sumI_bd hv hW hH k (by omega)
    have h3 : k / W < H := Nat.div_lt_of_lt_mul (by omega)
    have h4 : k % W < W := Nat.mod_lt _ (Nat.pos_of_ne_zero (fun e => by subst e; simp at h))
    have h2 := hv ((k / W) * 10 + k % W) (by omega)
    unfold sumI
    omega
theorem sumA_bd {v : Nat → Int} (hv : ∀ i, i < 100 → -128 ≤ v i ∧ v i ≤ 127) : ∀ k : Nat, k ≤ 100 → -128 * (k : Int) ≤ sumA v k ∧ sumA v k ≤ 128 * k
  | 0, _ => by simp [sumA]
  | k + 1, h => by
    have h1 := sumA_bd hv k (by omega)
    have h2 := hv k (by omega)
    unfold sumA
    omega

set_option maxRecDepth 100000 in
set_option maxHeartbeats 2000000 in
theorem sSum (v : Nat → Int) (hv : ∀ i, i < 100 → -128 ≤ v i ∧ v i ≤ 127) (g : Nat) (t : TypeId) (w : World) (hg : w.heap[g]? = some (.cells (arr .i8 100 v) t (0, 0))) :
    Calls Try.prog 34 #[.pointer (some ⟨g, 0, none⟩)] w fun e w' => e = .returned (.int .i64 (sumA v 100)) ∧ w = w' := by
  have HC := Lib.hid (blkC hg)
  have HV := Lib.hid hv
  clear hg hv
  go_enter Try.func34, Try.ntmps34
  go_wp2
  go_loop [3, 4] (fun n i => ∃ y : Nat, y ≤ 10 ∧ i = .int .i64 y ∧ n = .int .i64 (sumA v (y * 10))) (fun _ i => 10 - (intOf i).toNat)
  case atStart => exact ⟨0, by omega, rfl, rfl⟩
  case round =>
    obtain ⟨y, hy, rfl, rfl⟩ := hrel
    by_cases hy1 : y < 10
    · have hd : decide ((y : Int) < 10) = true := by simp; omega
      go_wp2
      go_loop [3, 5] (fun n i => ∃ x : Nat, x ≤ 10 ∧ i = .int .i64 x ∧ n = .int .i64 (sumA v (y * 10 + x))) (fun _ i => 10 - (intOf i).toNat)
      case atStart => exact ⟨0, by omega, rfl, rfl⟩
      case round =>
        obtain ⟨x, hx, rfl, rfl⟩ := hrel
        by_cases hx1 : x < 10
        · have hd2 : decide ((x : Int) < 10) = true := by simp; omega
          have hb := sumA_bd HV.out (y * 10 + x) (by omega)
          have hb2 := HV.out (y * 10 + x) (by omega)
          have hc : w.cell? ⟨g, y * 10 + x, none⟩ = some (.int .i8 (v (y * 10 + x))) := (HC.out _).trans (arr_get (by omega))
          obtain ⟨n, hn⟩ : ∃ n, n = sumA v (y * 10 + x) := ⟨_, rfl⟩
          obtain ⟨m, hm⟩ : ∃ m, m = v (y * 10 + x) := ⟨_, rfl⟩
          rw [← hm] at hc hb2
          rw [← hn] at hb ⊢
          have hs : sumA v (y * 10 + (x + 1)) = n + m := by rw [hn, hm]; rfl
          have HS := Lib.hid hs
          have n0 : -100000 ≤ n := by omega
          have n1 : n ≤ 100000 := by omega
          have m0 := hb2.1
          have m1 := hb2.2
          clear hs hn hm hb hb2
          go_wp2
          refine ⟨?_, by simp [intOf]; omega⟩
          first | exact ⟨x + 1, by omega, by go_num, by rw [HS.out]⟩ | ((repeat (apply Exists.intro)); exact ⟨⟨x + 1, by omega, by go_num, by rw [HS.out]⟩, rfl⟩)
        · have hd2 : decide ((x : Int) < 10) = false := by simp; omega
          have e : (y + 1) * 10 = y * 10 + x := by omega
          have E := Lib.hid e
          clear e
          go_wp2
          refine ⟨?_, by simp [intOf]; omega⟩
          first | exact ⟨y + 1, by omega, by go_num, by rw [E.out]⟩ | ((repeat (apply Exists.intro)); exact ⟨⟨y + 1, by omega, by go_num, by rw [E.out]⟩, rfl⟩)
    · have hd : decide ((y : Int) < 10) = false := by simp; omega
      have e : y = 10 := by omega
      have E := Lib.hid e
      clear e
      go_wp2
      go_ret
      exact ⟨by rw [E.out]; rfl, rfl⟩

set_option maxRecDepth 100000 in
set_option maxHeartbeats 1000000 in
theorem levOf (v : Nat → Int) (hv : ∀ i, i < 100 → -128 ≤ v i ∧ v i ≤ 127) (x y : Nat) (hx : x < 10) (hy : y < 10) (w : World) :
    Calls Try.prog 57 #[.agg (arr .i8 100 v), .agg #[.int .i8 x, .int .i8 y]] w fun e w' => e = .returned (.int .i64 (v (y * 10 + x))) ∧ Below w.heap.size w w' := by
  obtain ⟨v0, v1⟩ := hv (y * 10 + x) (by omega)
  obtain ⟨n, hn⟩ : ∃ n, n = v (y * 10 + x) := ⟨_, rfl⟩
  have g2 : (arr .i8 100 v)[y * 10 + x]? = some (.int .i8 (v (y * 10 + x))) := arr_get (by omega)
  rw [← hn] at g2 v0 v1 ⊢
  clear hn hv
  obtain ⟨W0, hW0⟩ : ∃ W0, W0 = ((w.alloc (.cells (arr .i8 100 v) 32)).alloc (.cells #[.int .i8 x, .int .i8 y] 44)).drew := ⟨_, rfl⟩
  have c0 : Below w.heap.size w W0 := by rw [hW0]; exact belD (belA (belA (Below.refl _ _)))
  have cg : W0.heap[w.heap.size]? = some (.cells (arr .i8 100 v) 32 (0, 0)) := by rw [hW0]; exact blkD (blkA (blkN rfl))
  have cn : W0.heap[w.heap.size + 1]? = some (.cells #[.int .i8 x, .int .i8 y] 44 (0, 0)) := by rw [hW0]; exact blkD (blkN (by simp))
  have c1 : W0.cell? ⟨w.heap.size + 1, 0, none⟩ = some (.int .i8 x) := (blkC cn 0).trans rfl
  have c2 : W0.cell? ⟨w.heap.size + 1, 1, none⟩ = some (.int .i8 y) := (blkC cn 1).trans rfl
  have c3 : W0.cell? ⟨w.heap.size, y * 10 + x, none⟩ = some (.int .i8 n) := (blkC cg _).trans g2
  clear cg cn g2
  rw [hW0] at c0 c1 c2 c3
  clear hW0
  have b1 : (0 : Int) ≤ x := by omega
  have b2 : (x : Int) < 10 := by omega
  have b3 : (0 : Int) ≤ y := by omega
  have b4 : (y : Int) < 10 := by omega
  have x1 : IntKind.i64.wrap n = n := IntWalk.i64_in _ (by omega)
  go_enter Try.func57, Try.ntmps57
  go_wp2
  refine wp_region_held_drew (S := fun w' => Below w.heap.size w w' ∧ w'.cell? ⟨w.heap.size + 1, 0, none⟩ = some (.int .i8 x) ∧ w'.cell? ⟨w.heap.size + 1, 1, none⟩ = some (.int .i8 y) ∧ w'.cell? ⟨w.heap.size, y * 10 + x, none⟩ = some (.int .i8 n)) (by kernel_rfl) ⟨c0, c1, c2, c3⟩ (fun hS => ?_)
  refine takeAny 0 (dN := some 5) (v := ?v1_0_1) rfl rfl (by kernel_rfl) (by kernel_rfl) (by kernel_rfl) (fun _ _ _ h => h) (.inl ⟨rfl, fun w' hSw => ?h1_0_1⟩) hS ?_
  case h1_0_1 => (go_simp; first | done | with_reducible rfl)
  simp only [Act.put, List.setIfInBounds_toArray, List.set_cons_zero, List.set_cons_succ]
  refine takeAny 1 (dN := some 6) (v := ?v1_1_2) rfl rfl (by kernel_rfl) (by kernel_rfl) (by kernel_rfl) (fun _ _ _ h => h) (.inl ⟨rfl, fun w' hSw => ?h1_1_2⟩) hS ?_
  case h1_1_2 => (go_simp; first | done | with_reducible rfl)
  simp only [Act.put, List.setIfInBounds_toArray, List.set_cons_zero, List.set_cons_succ]
  refine takeAny 2 (dN := some 7) (v := ?v1_2_3) rfl rfl (by kernel_rfl) (by kernel_rfl) (by kernel_rfl) (fun _ _ _ h => h) (.inl ⟨rfl, fun w' hSw => ?h1_2_3⟩) hS ?_
  case h1_2_3 => (go_simp; first | done | with_reducible rfl)
  simp only [Act.put, List.setIfInBounds_toArray, List.set_cons_zero, List.set_cons_succ]
  refine takeAny 3 (dN := some 8) (v := ?v1_3_4) rfl rfl (by kernel_rfl) (by kernel_rfl) (by kernel_rfl) (fun _ _ _ h => h) (.inl ⟨rfl, fun w' hSw => ?h1_3_4⟩) hS ?_
  case h1_3_4 => (go_simp; first | done | with_reducible rfl)
  simp only [Act.put, List.setIfInBounds_toArray, List.set_cons_zero, List.set_cons_succ]
  refine takeAny 4 (dN := some 9) (v := ?v1_4_5) rfl rfl (by kernel_rfl) (by kernel_rfl) (by kernel_rfl) (fun _ _ _ h => h) (.inl ⟨rfl, fun w' hSw => ?h1_4_5⟩) hS ?_
  case h1_4_5 => (go_simp; first | done | with_reducible rfl)
  simp only [Act.put, List.setIfInBounds_toArray, List.set_cons_zero, List.set_cons_succ]
  refine takeAny 5 (dN := some 10) (v := ?v1_5_6) rfl rfl (by kernel_rfl) (by kernel_rfl) (by kernel_rfl) (fun _ _ _ h => h) (.inl ⟨rfl, fun w' hSw => ?h1_5_6⟩) hS ?_
  case h1_5_6 => (go_simp; first | done | with_reducible rfl)
  simp only [Act.put, List.setIfInBounds_toArray, List.set_cons_zero, List.set_cons_succ]
  refine takeAny 6 (dN := some 11) (v := ?v1_6_7) rfl rfl (by kernel_rfl) (by kernel_rfl) (by kernel_rfl) (fun _ _ _ h => h) (.inl ⟨rfl, fun w' hSw => ?h1_6_7⟩) hS ?_
  case h1_6_7 => (go_simp; first | done | with_reducible rfl)
  simp only [Act.put, List.setIfInBounds_toArray, List.set_cons_zero, List.set_cons_succ]
  refine takeAny 7 (dN := some 12) (v := ?v1_7_8) rfl rfl (by kernel_rfl) (by kernel_rfl) (by kernel_rfl) (fun _ _ _ h => h) (.inl ⟨rfl, fun w' hSw => ?h1_7_8⟩) hS ?_
  case h1_7_8 => (go_simp; first | done | with_reducible rfl)
  simp only [Act.put, List.setIfInBounds_toArray, List.set_cons_zero, List.set_cons_succ]
  refine takeAny 8 (dN := some 4) (v := ?v1_8_9) rfl rfl (by kernel_rfl) (by kernel_rfl) (by kernel_rfl) (fun _ _ _ h => h) (.inl ⟨rfl, fun w' hSw => ?h1_8_9⟩) hS ?_
  case h1_8_9 => (go_simp; first | done | with_reducible rfl)
  simp only [Act.put, List.setIfInBounds_toArray, List.set_cons_zero, List.set_cons_succ]
  refine wpAnyH_done (by kernel_rfl) ?_ _
  go_wp2
  go_ret
  exact ⟨rfl, c0⟩
end Go.Proofs.Ytchhjdjdhlfhlaa.L
