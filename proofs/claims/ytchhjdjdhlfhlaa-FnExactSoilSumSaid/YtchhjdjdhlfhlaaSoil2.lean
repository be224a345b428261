/- Walks: SoilSum, the program's and the reference's, and the law. -/
import Derived.Test.YtchhjdjdhlfhlaaSoil
import Derived.Test.YtchhjdjdhlfhlaaTurnW
namespace Go.Proofs.Ytchhjdjdhlfhlaa.L
set_option linter.unusedSimpArgs false
set_option linter.unusedVariables false
open Go.RowKit Go.Proofs.Ytchhjdjdhlfhlaa.B

def SoilR (v : Nat → Int) (g : Nat) (cur : Array Value) (w wr : World) : Prop :=
  Below w.heap.size w wr ∧ wr.heap[w.heap.size + 1]? = some (.cells (arr .i8 100 v) 32 (0, 0)) ∧ wr.heap[g]? = some (.cells cur 44 (0, 0))

set_option maxRecDepth 100000 in
set_option maxHeartbeats 2000000 in
theorem isum (L : Lw) (v : Nat → Int) (hv : ∀ i, i < 100 → -128 ≤ v i ∧ v i ≤ 127) (W H : Nat) (hw : L.wide = W) (hh : L.high = H) (hW1 : 1 ≤ W) (hW : W ≤ 10) (hH1 : 1 ≤ H) (hH : H ≤ 10) (w : World) :
    Calls Try.prog 36 #[.agg L.cells, .agg (arr .i8 100 v)] w fun e w' => e = .returned (.int .i64 (sumI v W (W * H))) ∧ Below w.heap.size w w' := by
  obtain ⟨N, hN⟩ : ∃ N, N = W * H := ⟨_, rfl⟩
  have hWH : W * H ≤ 10 * 10 := Nat.mul_le_mul hW hH
  have hWH1 : 1 * 1 ≤ W * H := Nat.mul_le_mul hW1 hH1
  have HA := fun (w : World) => all L W H hw hh hW hH w
  rw [← hN] at HA hWH hWH1 ⊢
  have HA := Lib.hid HA
  have HN := Lib.hid hN
  have HV := Lib.hid hv
  clear hw hh hv hN
  go_enter Try.func36, Try.ntmps36
  go_wp2_with (first | (refine loadRow 8 rfl rfl rfl rfl Try.underlying30 rfl (blkA (blkN rfl)) (by rw [Lw.size]; exact size28) ?_) | (go_at_call 56; refine (HA.out _).mono ?_; rintro e w3 ⟨u, rfl, ho, hb3⟩; obtain ⟨g, cap, cur, rfl, hg1, hg2, hg3⟩ := ownAt ho (by omega)))
  have HR0 := Lib.hid (show SoilR v g cur w w3 from ⟨belW (belA (belA (Below.refl _ _))) hb3, blkB hb3 (blkN (by simp)) (by simp), hg2⟩)
  have HG3 := Lib.hid hg3
  clear hg3 hg1 hg2 ho hb3
  go_loopw [5, 11] (fun n i wr => ∃ k : Nat, k ≤ N ∧ i = .int .i64 k ∧ n = .int .i64 (sumI v W k) ∧ SoilR v g cur w wr) (fun _ i _ => N - (intOf i).toNat)
  case atStart => exact ⟨0, by omega, rfl, rfl, HR0.out⟩
  case round =>
    obtain ⟨k, hk, rfl, rfl, hr⟩ := hrel
    by_cases hlt : k < N
    · have hd : decide ((k : Int) < N) = true := by simp; omega
      have hdn : decide (k < N) = true := by simp; omega
      obtain ⟨x, y, hx, hy, hx1, hy1⟩ := cellRound (W := W) (H := H) (k := k) (by rw [← HN.out]; exact hlt)
      obtain ⟨q0, q1⟩ := HG3.out k hlt
      rw [hx] at q0
      rw [hy] at q1
      have r0 := (blkC hr.2.2 (k * 2)).trans q0
      have r1 := (blkC hr.2.2 (k * 2 + 1)).trans q1
      have hb := sumI_bd HV.out hW hH k (by rw [← HN.out]; omega)
      have hb2 := HV.out (y * 10 + x) (by omega)
      have HO := fun (w : World) => levOf v HV.out x y (by omega) (by omega) w
      obtain ⟨n, hn⟩ : ∃ n, n = sumI v W k := ⟨_, rfl⟩
      obtain ⟨m, hm⟩ : ∃ m, m = v (y * 10 + x) := ⟨_, rfl⟩
      rw [← hm] at HO hb2
      rw [← hn] at hb ⊢
      have hs : sumI v W (k + 1) = n + m := by unfold sumI; rw [hn, hm, hx, hy]
      have HS := Lib.hid hs
      have HO := Lib.hid HO
      have n0 : -100000 ≤ n := by omega
      have n1 : n ≤ 100000 := by omega
      have m0 := hb2.1
      have m1 := hb2.2
      clear hs hn hm hb hb2 q0 q1 hx hy
      go_wp2_with (first | (refine loadRow 16 rfl rfl rfl rfl Try.underlying32 rfl (blkA hr.2.1) (by rw [arr_size]; exact (zero_of_info zero100i).2) ?_) | (go_at_call 57; refine (HO.out _).mono ?_; rintro e w4 ⟨rfl, hb4⟩))
      refine ⟨?_, by simp [intOf]; omega⟩
      have hr2 : SoilR v g cur w w4 := ⟨belW (belA hr.1) hb4, blkB hb4 (blkA hr.2.1) (Nat.lt_trans (blkLt hr.2.1) (by simp)), blkB hb4 (blkA hr.2.2) (Nat.lt_trans (blkLt hr.2.2) (by simp))⟩
      first | exact ⟨k + 1, by omega, by go_num, by rw [HS.out], hr2⟩ | ((repeat (apply Exists.intro)); exact ⟨⟨k + 1, by omega, by go_num, by rw [HS.out], hr2⟩, rfl⟩)
    · have hd : decide ((k : Int) < N) = false := by simp; omega
      have hdn : decide (k < N) = false := by simp; omega
      have e : k = N := by omega
      have E := Lib.hid e
      clear e
      go_wp2
      go_ret
      exact ⟨by rw [E.out]; rfl, hr.1⟩

set_option maxRecDepth 100000 in
set_option maxHeartbeats 2000000 in
theorem soilCode0 (L : Lw) (hL : Lw.Ok L) (v : Nat → Int) (hv : ∀ i, i < 100 → -128 ≤ v i ∧ v i ≤ 127) (w : World) :
    Calls Try.prog 35 #[.agg L.cells, .agg (arr .i8 100 v), .slice none 0 0] w fun e w' => e = .returned (.int .i64 (if levB L v then 0 else 1)) ∧ Below w.heap.size w w' := by
  have HV := fun (w : World) => validLevels L hL v hv w
  rcases twoways (levB L v) with b | b
  · rw [b] at HV ⊢
    have HV := Lib.hid HV
    clear b hL hv
    go_enter Try.func35, Try.ntmps35
    go_wp2_with (first | (refine loadRow 7 rfl rfl rfl rfl Try.underlying30 rfl (blkA (blkN rfl)) (by rw [Lw.size]; exact size28) ?_) | (refine loadRow 8 rfl rfl rfl rfl Try.underlying32 rfl (blkN (by simp)) (by rw [arr_size]; exact (zero_of_info zero100i).2) ?_) | (go_at_call 11; refine (HV.out _).mono ?_; rintro e w1 ⟨rfl, hb⟩))
    go_ret
    exact ⟨rfl, belW (belA (belA (Below.refl _ _))) hb⟩
  · have hvl : validB L = true := by unfold levB at b; cases h : validB L <;> simp_all
    have HC := fun (w : World) => cells0 L hL w
    rw [show codeB L true = 0 by simp [codeB, hvl]] at HC
    have HC := Lib.hid HC
    rw [b] at HV ⊢
    have HV := Lib.hid HV
    clear b hL hv hvl
    go_enter Try.func35, Try.ntmps35
    go_wp2_with (first | (refine loadRow 7 rfl rfl rfl rfl Try.underlying30 rfl (blkA (blkN rfl)) (by rw [Lw.size]; exact size28) ?_) | (refine loadRow 11 rfl rfl rfl rfl Try.underlying30 rfl h1 (by rw [Lw.size]; exact size28) ?_) | (refine loadRow 8 rfl rfl rfl rfl Try.underlying32 rfl (blkN (by simp)) (by rw [arr_size]; exact (zero_of_info zero100i).2) ?_) | (go_at_call 11; refine (HV.out _).mono ?_; rintro e w1 ⟨rfl, hb⟩; have hB1 := belW (belA (belA (Below.refl w.heap.size w))) hb; have h1 : w1.heap[w.heap.size]? = some (.cells L.cells 30 (0, 0)) := blkB hb (blkA (blkN rfl)) (by first | (simp; done) | (simp; omega))) | (go_at_call 39; refine (HC.out _).mono ?_; rintro e w2 ⟨rfl, hb2⟩))
    go_ret
    exact ⟨rfl, belW hB1 hb2⟩
/-- The sum, and its code. -/
def soilV (L : Lw) (v : Nat → Int) : Int := if levB L v then sumA v 100 else 0
def soilC (L : Lw) (v : Nat → Int) : Int := if levB L v then 0 else 1

set_option maxRecDepth 100000 in
set_option maxHeartbeats 2000000 in
theorem soilSum (L : Lw) (hL : Lw.Ok L) (v : Nat → Int) (hv : ∀ i, i < 100 → -128 ≤ v i ∧ v i ≤ 127) (w : World) :
    Calls Try.prog 19 #[.agg L.cells, .agg (arr .i8 100 v)] w fun e w' => e = .returned (.tuple #[.int .i64 (soilV L v), .int .i64 (soilC L v)]) ∧ Below w.heap.size w w' := by
  have HC := fun (w : World) => soilCode0 L hL v hv w
  unfold soilV soilC
  rcases twoways (levB L v) with b | b
  · rw [b] at HC ⊢
    have HC := Lib.hid (show ∀ w : World, Calls Try.prog 35 #[.agg L.cells, .agg (arr .i8 100 v), .slice none 0 0] w fun e w' => e = .returned (.int .i64 1) ∧ Below w.heap.size w w' from HC)
    clear b hL hv
    go_enter Try.func19, Try.ntmps19
    go_wp2_with (first | (refine loadRow 7 rfl rfl rfl rfl Try.underlying30 rfl (blkA (blkN rfl)) (by rw [Lw.size]; exact size28) ?_) | (refine loadRow 8 rfl rfl rfl rfl Try.underlying32 rfl (blkN (by simp)) (by rw [arr_size]; exact (zero_of_info zero100i).2) ?_) | (go_at_call 35; refine (HC.out _).mono ?_; rintro e w1 ⟨rfl, hb⟩))
    go_ret2
    exact ⟨rfl, belW (belA (belA (Below.refl _ _))) hb⟩
  · have hvl : validB L = true := by unfold levB at b; cases h : validB L <;> simp_all
    obtain ⟨W, H, hw, hh, h1, h2, h3, h4⟩ := sides hvl
    have HS := fun (w : World) => isum L v hv W H hw hh h1 h2 h3 h4 w
    rw [← sum_all hw hh h2 h4 b] at HS
    have HS := Lib.hid HS
    rw [b] at HC ⊢
    have HC := Lib.hid (show ∀ w : World, Calls Try.prog 35 #[.agg L.cells, .agg (arr .i8 100 v), .slice none 0 0] w fun e w' => e = .returned (.int .i64 0) ∧ Below w.heap.size w w' from HC)
    clear b hL hv hvl hw hh
    go_enter Try.func19, Try.ntmps19
    go_wp2_with (first | (refine loadRow 7 rfl rfl rfl rfl Try.underlying30 rfl (blkA (blkN rfl)) (by rw [Lw.size]; exact size28) ?_) | (refine loadRow 13 rfl rfl rfl rfl Try.underlying30 rfl h1 (by rw [Lw.size]; exact size28) ?_) | (refine loadRow 8 rfl rfl rfl rfl Try.underlying32 rfl (blkN (by simp)) (by rw [arr_size]; exact (zero_of_info zero100i).2) ?_) | (refine loadRow 14 rfl rfl rfl rfl Try.underlying32 rfl h2 (by rw [arr_size]; exact (zero_of_info zero100i).2) ?_) | (go_at_call 35; refine (HC.out _).mono ?_; rintro e w1 ⟨rfl, hb⟩; have hB1 := belW (belA (belA (Below.refl w.heap.size w))) hb; have h1 : w1.heap[w.heap.size]? = some (.cells L.cells 30 (0, 0)) := blkB hb (blkA (blkN rfl)) (by first | (simp; done) | (simp; omega)); have h2 : w1.heap[w.heap.size + 1]? = some (.cells (arr .i8 100 v) 32 (0, 0)) := blkB hb (blkN (by simp)) (by simp)) | (go_at_call 36; refine (HS.out _).mono ?_; rintro e w2 ⟨rfl, hb2⟩))
    go_ret2
    exact ⟨rfl, belW hB1 hb2⟩

set_option maxRecDepth 100000 in
set_option maxHeartbeats 2000000 in
theorem sSoilSum (L : Lw) (hL : Lw.Ok L) (v : Nat → Int) (hv : ∀ i, i < 100 → -128 ≤ v i ∧ v i ≤ 127) (w : World) :
    Calls Try.prog 18 #[.agg L.cells, .agg (arr .i8 100 v)] w fun e w' => e = .returned (.tuple #[.int .i64 (soilV L v), .int .i64 (soilC L v)]) ∧ Below w.heap.size w w' := by
  have HL := fun (gl gv : Nat) (tl tv : TypeId) (w : World) h1 h2 => sLevels L hL v hv gl gv tl tv w h1 h2
  have HS := Lib.hid (fun (g : Nat) (t : TypeId) (w : World) h => sSum v hv g t w h)
  unfold soilV soilC
  rcases twoways (levB L v) with b | b
  · rw [b] at HL ⊢
    have HL := Lib.hid HL
    clear b hL hv
    go_enter Try.func18, Try.ntmps18
    go_wp2_with (first | (go_at_call 22; refine (HL.out w.heap.size (w.heap.size + 1) _ _ _ (blkA (blkN rfl)) (blkN (by simp))).mono ?_; rintro e w1 ⟨rfl, hb⟩))
    go_ret2
    exact ⟨rfl, belW (belA (belA (Below.refl _ _))) hb⟩
  · rw [b] at HL ⊢
    have HL := Lib.hid HL
    clear b hL hv
    go_enter Try.func18, Try.ntmps18
    go_wp2_with (first | (go_at_call 22; refine (HL.out w.heap.size (w.heap.size + 1) _ _ _ (blkA (blkN rfl)) (blkN (by simp))).mono ?_; rintro e w1 ⟨rfl, hb⟩; have h2 : w1.heap[w.heap.size + 1]? = some (.cells (arr .i8 100 v) 32 (0, 0)) := blkB hb (blkN (by simp)) (by simp)) | (go_at_call 34; refine (HS.out (w.heap.size + 1) _ _ h2).mono ?_; rintro e w2 ⟨rfl, rfl⟩))
    go_ret2
    exact ⟨rfl, belW (belA (belA (Below.refl _ _))) hb⟩

set_option maxRecDepth 100000 in
set_option maxHeartbeats 2000000 in
theorem lawSoil (L : Lw) (hL : Lw.Ok L) (v : Nat → Int) (hv : ∀ i, i < 100 → -128 ≤ v i ∧ v i ≤ 127) (w : World) :
    Calls Try.prog 6 #[.agg L.cells, .agg (arr .i8 100 v)] w fun e w' => e = .returned (.bool true) ∧ Below w.heap.size w w' := by
  go_enter Try.func6, Try.ntmps6
  go_wp2
  refine wp_region_held_drew (S := fun w' => Below w.heap.size w w' ∧ w'.heap[w.heap.size]? = some (.cells L.cells 26 (0, 0)) ∧ w'.heap[w.heap.size + 1]? = some (.cells (arr .i8 100 v) 28 (0, 0))) (by kernel_rfl) ⟨belD (belA (belA (Below.refl _ _))), blkD (blkA (blkN rfl)), blkD (blkN (by simp))⟩ (fun hS => ?_)
  refine takeRow 0 rfl rfl (by kernel_rfl) (by kernel_rfl) (by kernel_rfl) (fun _ _ _ h => h) rfl rfl rfl Try.underlying26 rfl (fun w h => h.2.1) (by rw [Lw.size]; kernel_rfl) hS ?_
  simp only [Act.put, List.setIfInBounds_toArray, List.set_cons_zero, List.set_cons_succ]
  refine takeRow 2 rfl rfl (by kernel_rfl) (by kernel_rfl) (by kernel_rfl) (fun _ _ _ h => h) rfl rfl rfl Try.underlying28 rfl (fun w h => h.2.2) (by rw [arr_size]; exact size100i) hS ?_
  simp only [Act.put, List.setIfInBounds_toArray, List.set_cons_zero, List.set_cons_succ]
  refine wpAnyH_ready (rs := [1]) (by kernel_rfl) (by simp) (AllReadyH.cons rfl (fun K hK => ?_) AllReadyH.nil)
  go_simp
  go_at_call 9
  refine (toLawn _ _).mono ?_
  rintro e w1_1 ⟨rfl, hb⟩
  refine hK.out _ _ ⟨belW hS.1 hb, blkB hb hS.2.1 (blkLt hS.2.1), blkB hb hS.2.2 (blkLt hS.2.2)⟩ (fun hS => ?_)
  clear hb hK
  refine wpAnyH_ready (rs := [3]) (by kernel_rfl) (by simp) (AllReadyH.cons rfl (fun K hK => ?_) AllReadyH.nil)
  go_simp
  go_at_call 10
  refine (toLevels _ _).mono ?_
  rintro e w1_3 ⟨rfl, hb⟩
  refine hK.out _ _ ⟨belW hS.1 hb, blkB hb hS.2.1 (blkLt hS.2.1), blkB hb hS.2.2 (blkLt hS.2.2)⟩ (fun hS => ?_)
  clear hb hK
  refine wpAnyH_ready (rs := [4]) (by kernel_rfl) (by simp) (AllReadyH.cons rfl (fun K hK => ?_) AllReadyH.nil)
  go_simp
  go_at_call 18
  refine (sSoilSum L hL v hv _).mono ?_
  rintro e w1_4 ⟨rfl, hb⟩
  refine hK.out _ _ ⟨belW hS.1 hb, blkB hb hS.2.1 (blkLt hS.2.1), blkB hb hS.2.2 (blkLt hS.2.2)⟩ (fun hS => ?_)
  clear hb hK
  refine takeAny 5 (dN := some 9) (v := ?v1_5_6) rfl rfl (by kernel_rfl) (by kernel_rfl) (by kernel_rfl) (fun _ _ _ h => h) (.inl ⟨rfl, fun w' hSw => ?h1_5_6⟩) hS ?_
  case h1_5_6 => (go_simp; first | done | with_reducible rfl)
  simp only [Act.put, List.setIfInBounds_toArray, List.set_cons_zero, List.set_cons_succ]
  refine takeAny 6 (dN := some 15) (v := ?v1_6_7) rfl rfl (by kernel_rfl) (by kernel_rfl) (by kernel_rfl) (fun _ _ _ h => h) (.inl ⟨rfl, fun w' hSw => ?h1_6_7⟩) hS ?_
  case h1_6_7 => (go_simp; first | done | with_reducible rfl)
  simp only [Act.put, List.setIfInBounds_toArray, List.set_cons_zero, List.set_cons_succ]
  refine takeAny 7 (dN := some 16) (v := ?v1_7_8) rfl rfl (by kernel_rfl) (by kernel_rfl) (by kernel_rfl) (fun _ _ _ h => h) (.inl ⟨rfl, fun w' hSw => ?h1_7_8⟩) hS ?_
  case h1_7_8 => (go_simp; first | done | with_reducible rfl)
  simp only [Act.put, List.setIfInBounds_toArray, List.set_cons_zero, List.set_cons_succ]
  refine takeAny 8 (dN := some 5) (v := ?v1_8_9) rfl rfl (by kernel_rfl) (by kernel_rfl) (by kernel_rfl) (fun _ _ _ h => h) (.inl ⟨rfl, fun w' hSw => ?h1_8_9⟩) hS ?_
  case h1_8_9 => (go_simp; first | done | with_reducible rfl)
  simp only [Act.put, List.setIfInBounds_toArray, List.set_cons_zero, List.set_cons_succ]
  refine takeAny 9 (dN := some 6) (v := ?v1_9_10) rfl rfl (by kernel_rfl) (by kernel_rfl) (by kernel_rfl) (fun _ _ _ h => h) (.inl ⟨rfl, fun w' hSw => ?h1_9_10⟩) hS ?_
  case h1_9_10 => (go_simp; first | done | with_reducible rfl)
  simp only [Act.put, List.setIfInBounds_toArray, List.set_cons_zero, List.set_cons_succ]
  refine wpAnyH_done (by kernel_rfl) ?_ _
  go_wp2
  refine wp_region_held_drew (S := fun w' => Below w.heap.size w w' ∧ w'.heap[w.heap.size]? = some (.cells L.cells 26 (0, 0)) ∧ w'.heap[w.heap.size + 1]? = some (.cells (arr .i8 100 v) 28 (0, 0))) (by kernel_rfl) ⟨belD hS.1, blkD hS.2.1, blkD hS.2.2⟩ (fun hS => ?_)
  refine takeRow 0 rfl rfl (by kernel_rfl) (by kernel_rfl) (by kernel_rfl) (fun _ _ _ h => h) rfl rfl rfl Try.underlying26 rfl (fun w h => h.2.1) (by rw [Lw.size]; kernel_rfl) hS ?_
  simp only [Act.put, List.setIfInBounds_toArray, List.set_cons_zero, List.set_cons_succ]
  refine takeRow 2 rfl rfl (by kernel_rfl) (by kernel_rfl) (by kernel_rfl) (fun _ _ _ h => h) rfl rfl rfl Try.underlying28 rfl (fun w h => h.2.2) (by rw [arr_size]; exact size100i) hS ?_
  simp only [Act.put, List.setIfInBounds_toArray, List.set_cons_zero, List.set_cons_succ]
  refine wpAnyH_ready (rs := [1]) (by kernel_rfl) (by simp) (AllReadyH.cons rfl (fun K hK => ?_) AllReadyH.nil)
  go_simp
  go_at_call 9
  refine (toLawn _ _).mono ?_
  rintro e w2_1 ⟨rfl, hb⟩
  refine hK.out _ _ ⟨belW hS.1 hb, blkB hb hS.2.1 (blkLt hS.2.1), blkB hb hS.2.2 (blkLt hS.2.2)⟩ (fun hS => ?_)
  clear hb hK
  refine wpAnyH_ready (rs := [3]) (by kernel_rfl) (by simp) (AllReadyH.cons rfl (fun K hK => ?_) AllReadyH.nil)
  go_simp
  go_at_call 10
  refine (toLevels _ _).mono ?_
  rintro e w2_3 ⟨rfl, hb⟩
  refine hK.out _ _ ⟨belW hS.1 hb, blkB hb hS.2.1 (blkLt hS.2.1), blkB hb hS.2.2 (blkLt hS.2.2)⟩ (fun hS => ?_)
  clear hb hK
  refine wpAnyH_ready (rs := [4]) (by kernel_rfl) (by simp) (AllReadyH.cons rfl (fun K hK => ?_) AllReadyH.nil)
  go_simp
  go_at_call 19
  refine (soilSum L hL v hv _).mono ?_
  rintro e w2_4 ⟨rfl, hb⟩
  refine hK.out _ _ ⟨belW hS.1 hb, blkB hb hS.2.1 (blkLt hS.2.1), blkB hb hS.2.2 (blkLt hS.2.2)⟩ (fun hS => ?_)
  clear hb hK
  refine takeAny 5 (dN := some 17) (v := ?v2_5_6) rfl rfl (by kernel_rfl) (by kernel_rfl) (by kernel_rfl) (fun _ _ _ h => h) (.inl ⟨rfl, fun w' hSw => ?h2_5_6⟩) hS ?_
  case h2_5_6 => (go_simp; first | done | with_reducible rfl)
  simp only [Act.put, List.setIfInBounds_toArray, List.set_cons_zero, List.set_cons_succ]
  refine takeAny 6 (dN := some 23) (v := ?v2_6_7) rfl rfl (by kernel_rfl) (by kernel_rfl) (by kernel_rfl) (fun _ _ _ h => h) (.inl ⟨rfl, fun w' hSw => ?h2_6_7⟩) hS ?_
  case h2_6_7 => (go_simp; first | done | with_reducible rfl)
  simp only [Act.put, List.setIfInBounds_toArray, List.set_cons_zero, List.set_cons_succ]
  refine takeAny 7 (dN := some 24) (v := ?v2_7_8) rfl rfl (by kernel_rfl) (by kernel_rfl) (by kernel_rfl) (fun _ _ _ h => h) (.inl ⟨rfl, fun w' hSw => ?h2_7_8⟩) hS ?_
  case h2_7_8 => (go_simp; first | done | with_reducible rfl)
  simp only [Act.put, List.setIfInBounds_toArray, List.set_cons_zero, List.set_cons_succ]
  refine takeAny 8 (dN := some 7) (v := ?v2_8_9) rfl rfl (by kernel_rfl) (by kernel_rfl) (by kernel_rfl) (fun _ _ _ h => h) (.inl ⟨rfl, fun w' hSw => ?h2_8_9⟩) hS ?_
  case h2_8_9 => (go_simp; first | done | with_reducible rfl)
  simp only [Act.put, List.setIfInBounds_toArray, List.set_cons_zero, List.set_cons_succ]
  refine takeAny 9 (dN := some 8) (v := ?v2_9_10) rfl rfl (by kernel_rfl) (by kernel_rfl) (by kernel_rfl) (fun _ _ _ h => h) (.inl ⟨rfl, fun w' hSw => ?h2_9_10⟩) hS ?_
  case h2_9_10 => (go_simp; first | done | with_reducible rfl)
  simp only [Act.put, List.setIfInBounds_toArray, List.set_cons_zero, List.set_cons_succ]
  refine wpAnyH_done (by kernel_rfl) ?_ _
  go_wp2
  go_ret
  exact ⟨rfl, hS.1⟩
end Go.Proofs.Ytchhjdjdhlfhlaa.L
