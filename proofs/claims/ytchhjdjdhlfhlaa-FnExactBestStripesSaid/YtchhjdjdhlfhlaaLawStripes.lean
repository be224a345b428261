/- Walks: which stripes are best, and the law. -/
import Derived.Test.YtchhjdjdhlfhlaaSRuns
namespace Go.Proofs.Ytchhjdjdhlfhlaa.L
set_option linter.unusedSimpArgs false
set_option linter.unusedVariables false
open Go.RowKit Go.Proofs.Ytchhjdjdhlfhlaa.B

def minB (a b : Nat) : Nat := if b < a then b else a
theorem runMin {P : Program} (a b : Nat) (ats : Array TypeId) (ty : TypeId) (w : World) : (Builtin.min_ ats ty #[.int .i64 a, .int .i64 b]).run P w = .ok (.int .i64 (minB a b : Nat)) w := by
  unfold minB
  by_cases h : b < a
  · have h2 : (b : Int) < a := by omega
    simp [Builtin.min_, Builtin.min2, h, h2]
  · have h2 : ¬ (b : Int) < a := by omega
    simp [Builtin.min_, Builtin.min2, h, h2]
set_option maxHeartbeats 1000000 in
theorem sMin (a b : Nat) (w : World) : Calls Try.prog 38 #[.int .i64 a, .int .i64 b] w fun e w' => e = .returned (.int .i64 (minB a b : Nat)) ∧ w = w' := by
  by_cases h : a < b
  · have h1 : decide ((a : Int) < b) = true := by simp; omega
    have h2 : decide (a < b) = true := by simp; omega
    have e : minB a b = a := by unfold minB; rw [if_neg (by omega)]
    rw [e]
    clear e h
    go_enter Try.func38, Try.ntmps38
    go_wp2
    go_ret
    exact ⟨rfl, rfl⟩
  · have h1 : decide ((a : Int) < b) = false := by simp; omega
    have h2 : decide (a < b) = false := by simp; omega
    have e : minB a b = b := by unfold minB; split <;> omega
    rw [e]
    clear e h
    go_enter Try.func38, Try.ntmps38
    go_wp2
    go_ret
    exact ⟨rfl, rfl⟩
set_option maxRecDepth 100000 in
set_option maxHeartbeats 2000000 in
theorem sStripesOk (L : Lw) (hL : Lw.Ok L) (hv : validB L = true) (W H : Nat) (hw : L.wide = W) (hh : L.high = H) (hW1 : 1 ≤ W) (hW : W ≤ 10) (hH1 : 1 ≤ H) (hH : H ≤ 10) (w : World) :
    Calls Try.prog 20 #[.agg L.cells] w fun e w' => e = .returned (.tuple #[.bool (decide ((keepL (runB L W 1 0) (W * H)).length ≤ (keepL (runB L W 0 1) (W * H)).length)), .int .i64 (minB (keepL (runB L W 1 0) (W * H)).length (keepL (runB L W 0 1) (W * H)).length : Nat), .int .i64 0]) ∧ Below w.heap.size w w' := by
  have HC := fun (g : Nat) (t : TypeId) (w : World) hg => sOk L hL g t w hg
  rw [hv] at HC
  have HC := Lib.hid HC
  have HA := fun (gl : Nat) (t : TypeId) (w : World) h => sRunsA L hL W H hw hh hW1 hW hH1 hH gl t w h
  have HD := fun (gl : Nat) (t : TypeId) (w : World) h => sRunsD L hL W H hw hh hW1 hW hH1 hH gl t w h
  have hWH : W * H ≤ 10 * 10 := Nat.mul_le_mul hW hH
  have la := keepL_le (runB L W 1 0) (W * H)
  have lb := keepL_le (runB L W 0 1) (W * H)
  generalize (keepL (runB L W 1 0) (W * H)).length = a at *
  generalize (keepL (runB L W 0 1) (W * H)).length = b at *
  have HA := Lib.hid HA
  have HD := Lib.hid HD
  have HM := Lib.hid (fun (w : World) => sMin a b w)
  obtain ⟨q, hq⟩ : ∃ q, q = decide (a ≤ b) := ⟨_, rfl⟩
  rw [← hq]
  have q1 : decide (a ≤ b) = q := hq.symm
  have q2 : decide ((a : Int) ≤ (b : Int)) = q := by rw [hq]; simp
  clear hq hv hw hh hL
  go_enter Try.func20, Try.ntmps20
  go_wp2_with (first | (go_at_call 27; refine (HC.out w.heap.size _ _ (blkN rfl)).mono ?_; rintro e w1 ⟨rfl, hb⟩; have hB1 := belW (belA (Below.refl w.heap.size w)) hb; have h1 : w1.heap[w.heap.size]? = some (.cells L.cells 30 (0, 0)) := blkB hb (blkN rfl) (by simp)))
  refine (HA.out _ _ _ h1).mono ?_
  rintro e w2 ⟨⟨xa, xc, rfl⟩, hb2⟩
  have hB2 := belW hB1 hb2
  have h2 := blkB hb2 h1 (blkLt h1)
  go_wp2_with fail
  refine (HD.out _ _ _ h2).mono ?_
  rintro e w3 ⟨⟨ya, yc, rfl⟩, hb3⟩
  have hB3 := belW hB2 hb3
  go_wp2_with (first | (go_at_call 38; refine (HM.out _).mono ?_; rintro e w4 ⟨rfl, rfl⟩))
  go_ret3
  exact ⟨rfl, hB3⟩
set_option maxRecDepth 100000 in
set_option maxHeartbeats 2000000 in
theorem stripesOk (L : Lw) (hL : Lw.Ok L) (hv : validB L = true) (W H : Nat) (hw : L.wide = W) (hh : L.high = H) (hW1 : 1 ≤ W) (hW : W ≤ 10) (hH1 : 1 ≤ H) (hH : H ≤ 10) (w : World) :
    Calls Try.prog 21 #[.agg L.cells] w fun e w' => e = .returned (.tuple #[.bool (decide ((keepL (runB L W 1 0) (W * H)).length ≤ (keepL (runB L W 0 1) (W * H)).length)), .int .i64 (minB (keepL (runB L W 1 0) (W * H)).length (keepL (runB L W 0 1) (W * H)).length : Nat), .int .i64 0]) ∧ Below w.heap.size w w' := by
  have HC := fun (w : World) => cells0 L hL w
  rw [show codeB L true = 0 by simp [codeB, hv]] at HC
  have HC := Lib.hid HC
  have HA := fun (w : World) => runsA L hL W H hw hh hW1 hW hH1 hH w
  have HD := fun (w : World) => runsD L hL W H hw hh hW1 hW hH1 hH w
  have hWH : W * H ≤ 10 * 10 := Nat.mul_le_mul hW hH
  have la := keepL_le (runB L W 1 0) (W * H)
  have lb := keepL_le (runB L W 0 1) (W * H)
  generalize (keepL (runB L W 1 0) (W * H)).length = a at *
  generalize (keepL (runB L W 0 1) (W * H)).length = b at *
  have HA := Lib.hid HA
  have HD := Lib.hid HD
  have hmin := fun (ats : Array TypeId) (ty : TypeId) (w : World) => runMin (P := Try.prog) a b ats ty w
  obtain ⟨q, hq⟩ : ∃ q, q = decide (a ≤ b) := ⟨_, rfl⟩
  rw [← hq]
  have q1 : decide (a ≤ b) = q := hq.symm
  have q2 : decide ((a : Int) ≤ (b : Int)) = q := by rw [hq]; simp
  clear hq hv hw hh hL
  go_enter Try.func21, Try.ntmps21
  go_wp2_with (first | (refine loadRow 8 rfl rfl rfl rfl Try.underlying30 rfl (blkN rfl) (by rw [Lw.size]; exact size28) ?_) | (go_at_call 39; refine (HC.out _).mono ?_; rintro e w1 ⟨rfl, hb⟩; have hB1 := belW (belA (Below.refl w.heap.size w)) hb; have h1 : w1.heap[w.heap.size]? = some (.cells L.cells 30 (0, 0)) := blkB hb (blkN rfl) (by simp)))
  refine wp_region_held_drew (S := fun w' => Below w.heap.size w w' ∧ w'.heap[w.heap.size]? = some (.cells L.cells 30 (0, 0))) (by kernel_rfl) ⟨belD hB1, blkD h1⟩ (fun hS => ?_)
  refine takeRow 0 rfl rfl (by kernel_rfl) (by kernel_rfl) (by kernel_rfl) (fun _ _ _ h => h) rfl rfl rfl Try.underlying30 rfl (fun w h => h.2) (by rw [Lw.size]; exact size28) hS ?_
  simp only [Act.put, List.setIfInBounds_toArray, List.set_cons_zero, List.set_cons_succ]
  refine takeRow 3 rfl rfl (by kernel_rfl) (by kernel_rfl) (by kernel_rfl) (fun _ _ _ h => h) rfl rfl rfl Try.underlying30 rfl (fun w h => h.2) (by rw [Lw.size]; exact size28) hS ?_
  simp only [Act.put, List.setIfInBounds_toArray, List.set_cons_zero, List.set_cons_succ]
  refine wpAnyH_ready (rs := [1]) (by kernel_rfl) (by simp) (AllReadyH.cons rfl (fun K hK => ?_) AllReadyH.nil)
  go_simp
  go_at_call 40
  refine (HA.out _).mono ?_
  rintro e w4_1 ⟨⟨xa1, xc1, rfl⟩, hb⟩
  refine hK.out _ _ ⟨belW hS.1 hb, blkB hb hS.2 (blkLt hS.2)⟩ (fun hS => ?_)
  clear hb hK
  refine takeAny 2 (dN := some 15) (v := ?v1_2_4) rfl rfl (by kernel_rfl) (by kernel_rfl) (by kernel_rfl) (fun _ _ _ h => h) (.inl ⟨rfl, fun w' hSw => ?h1_2_4⟩) hS ?_
  case h1_2_4 => (go_simp; first | done | with_reducible rfl)
  simp only [Act.put, List.setIfInBounds_toArray, List.set_cons_zero, List.set_cons_succ]
  refine wpAnyH_ready (rs := [4]) (by kernel_rfl) (by simp) (AllReadyH.cons rfl (fun K hK => ?_) AllReadyH.nil)
  go_simp
  go_at_call 40
  refine (HD.out _).mono ?_
  rintro e w4_4 ⟨⟨xa4, xc4, rfl⟩, hb⟩
  refine hK.out _ _ ⟨belW hS.1 hb, blkB hb hS.2 (blkLt hS.2)⟩ (fun hS => ?_)
  clear hb hK
  refine takeAny 5 (dN := some 18) (v := ?v1_5_6) rfl rfl (by kernel_rfl) (by kernel_rfl) (by kernel_rfl) (fun _ _ _ h => h) (.inl ⟨rfl, fun w' hSw => ?h1_5_6⟩) hS ?_
  case h1_5_6 => (go_simp; first | done | with_reducible rfl)
  simp only [Act.put, List.setIfInBounds_toArray, List.set_cons_zero, List.set_cons_succ]
  refine takeAny 6 (dN := some 6) (v := ?v1_6_7) rfl rfl (by kernel_rfl) (by kernel_rfl) (by kernel_rfl) (fun _ _ _ h => h) (.inl ⟨rfl, fun w' hSw => ?h1_6_7⟩) hS ?_
  case h1_6_7 => (go_simp; first | done | with_reducible rfl)
  simp only [Act.put, List.setIfInBounds_toArray, List.set_cons_zero, List.set_cons_succ]
  refine takeAny 7 (dN := some 7) (v := ?v1_7_8) rfl rfl (by kernel_rfl) (by kernel_rfl) (by kernel_rfl) (fun _ _ _ h => h) (.inl ⟨rfl, fun w' hSw => ?h1_7_8⟩) hS ?_
  case h1_7_8 => (go_simp; first | done | with_reducible rfl)
  simp only [Act.put, List.setIfInBounds_toArray, List.set_cons_zero, List.set_cons_succ]
  refine wpAnyH_done (by kernel_rfl) ?_ _
  go_wp2
  go_ret3
  exact ⟨rfl, hS.1⟩
set_option maxRecDepth 100000 in
set_option maxHeartbeats 2000000 in
theorem sStripesNo (L : Lw) (hL : Lw.Ok L) (hv : validB L = false) (w : World) :
    Calls Try.prog 20 #[.agg L.cells] w fun e w' => e = .returned (.tuple #[.bool false, .int .i64 0, .int .i64 1]) ∧ Below w.heap.size w w' := by
  have HC := fun (g : Nat) (t : TypeId) (w : World) hg => sOk L hL g t w hg
  rw [hv] at HC
  have HC := Lib.hid HC
  clear hv hL
  go_enter Try.func20, Try.ntmps20
  go_wp2_with (first | (go_at_call 27; refine (HC.out w.heap.size _ _ (blkN rfl)).mono ?_; rintro e w1 ⟨rfl, hb⟩; have hB1 := belW (belA (Below.refl w.heap.size w)) hb))
  go_ret3
  exact ⟨rfl, hB1⟩
set_option maxRecDepth 100000 in
set_option maxHeartbeats 2000000 in
theorem stripesNo (L : Lw) (hL : Lw.Ok L) (hv : validB L = false) (w : World) :
    Calls Try.prog 21 #[.agg L.cells] w fun e w' => e = .returned (.tuple #[.bool false, .int .i64 0, .int .i64 1]) ∧ Below w.heap.size w w' := by
  have HC := fun (w : World) => cells0 L hL w
  rw [show codeB L true = 1 by simp [codeB, hv]] at HC
  have HC := Lib.hid HC
  clear hv hL
  go_enter Try.func21, Try.ntmps21
  go_wp2_with (first | (refine loadRow 8 rfl rfl rfl rfl Try.underlying30 rfl (blkN rfl) (by rw [Lw.size]; exact size28) ?_) | (go_at_call 39; refine (HC.out _).mono ?_; rintro e w1 ⟨rfl, hb⟩; have hB1 := belW (belA (Below.refl w.heap.size w)) hb))
  go_ret3
  exact ⟨rfl, hB1⟩
theorem stripesAny (L : Lw) (hL : Lw.Ok L) : ∃ (q : Bool) (n c : Int), (∀ w, Calls Try.prog 21 #[.agg L.cells] w fun e w' => e = .returned (.tuple #[.bool q, .int .i64 n, .int .i64 c]) ∧ Below w.heap.size w w') ∧ (∀ w, Calls Try.prog 20 #[.agg L.cells] w fun e w' => e = .returned (.tuple #[.bool q, .int .i64 n, .int .i64 c]) ∧ Below w.heap.size w w') := by
  rcases twoways (validB L) with hv | hv
  · exact ⟨_, _, _, fun w => stripesNo L hL hv w, fun w => sStripesNo L hL hv w⟩
  · obtain ⟨W, H, hw, hh, h1, h2, h3, h4⟩ := sides hv
    exact ⟨_, _, _, fun w => stripesOk L hL hv W H hw hh h1 h2 h3 h4 w, fun w => sStripesOk L hL hv W H hw hh h1 h2 h3 h4 w⟩

set_option maxRecDepth 100000 in
set_option maxHeartbeats 4000000 in
theorem lawStripes (L : Lw) (hL : Lw.Ok L) (w : World) :
    Calls Try.prog 7 #[.agg L.cells] w fun e w' => e = .returned (.bool true) ∧ Below w.heap.size w w' := by
  obtain ⟨q, n, c, HI, HS⟩ := stripesAny L hL
  have HI := Lib.hid HI
  have HS := Lib.hid HS
  go_enter Try.func7, Try.ntmps7
  go_wp2_with (refine loadRow 10 rfl rfl rfl rfl Try.underlying26 rfl (blkN rfl) (by rw [Lw.size]; kernel_rfl) ?_)
  refine (toLawn L _).mono ?_
  rintro e w1 ⟨rfl, hb⟩
  have hB1 := belW (belA (Below.refl w.heap.size w)) hb
  have h1 : w1.heap[w.heap.size]? = some (.cells L.cells 26 (0, 0)) := blkB hb (blkN rfl) (by simp)
  clear hb
  go_wp2_with fail
  refine (HS.out _).mono ?_
  rintro e w2 ⟨rfl, hb⟩
  have hB2 := belW hB1 hb
  have h2 := blkB hb h1 (blkLt h1)
  clear hb hB1 h1
  go_wp2_with (refine loadRow 17 rfl rfl rfl rfl Try.underlying26 rfl h2 (by rw [Lw.size]; kernel_rfl) ?_)
  refine (toLawn L _).mono ?_
  rintro e w4 ⟨rfl, hb⟩
  have hB4 := belW hB2 hb
  clear hb hB2
  go_wp2_with fail
  refine (HI.out _).mono ?_
  rintro e w5 ⟨rfl, hb⟩
  have hB5 := belW hB4 hb
  clear hb hB4
  cases q <;> go_wp2
  all_goals
    go_ret
    exact ⟨rfl, hB5⟩
end Go.Proofs.Ytchhjdjdhlfhlaa.L
