/- Walks: lawns laid anew. -/
import Derived.Test.YtchhjdjdhlfhlaaProg
import Derived.Test.YtchhjdjdhlfhlaaBase
namespace Go.Proofs.Ytchhjdjdhlfhlaa.L
set_option linter.unusedSimpArgs false
set_option linter.unusedVariables false
open Go.RowKit Go.Proofs.Ytchhjdjdhlfhlaa.B

theorem zero10 : arr .u8 10 (fun _ => 0) = #[.int .u8 0, .int .u8 0, .int .u8 0, .int .u8 0, .int .u8 0, .int .u8 0, .int .u8 0, .int .u8 0, .int .u8 0, .int .u8 0] := by kernel_rfl

set_option maxRecDepth 100000 in
set_option maxHeartbeats 1000000 in
theorem toByteA10 (c : Nat → Int) (w : World) :
    Calls Try.prog 42 #[.agg (arr .u8 10 c)] w fun e w' => e = .returned (.agg (arr .u8 10 c)) ∧ Below w.heap.size w w' := by
  go_enter Try.func42, Try.ntmps42
  go_wp2
  rw [← zero10, ← pref_zero .u8 10 c]
  go_loopw [4] (fun i wr => ∃ k : Nat, k ≤ 10 ∧ i = .int .i64 k ∧ wr = ((w.alloc (.cells (arr .u8 10 c) 23)).alloc (.cells (arr .u8 10 (pref c 0)) 23)).alloc (.cells (arr .u8 10 (pref c k)) 23)) (fun i _ => 10 - (intOf i).toNat)
  case atStart => exact ⟨0, by omega, rfl, rfl⟩
  case round =>
    obtain ⟨k, hk, rfl, rfl⟩ := hrel
    by_cases hlt : k < 10
    · have hg := arr_get (k := .u8) (c := c) hlt
      have hg2 := arr_get (k := .u8) (c := pref c k) hlt
      go_wp2
      exact ⟨⟨k + 1, by omega, by go_num, by rw [pref_step]⟩, by simp [intOf]; omega⟩
    · obtain rfl : k = 10 := by omega
      go_wp2_with (first | (refine loadRow 14 rfl rfl rfl rfl Try.underlying23 rfl (blkN (by simp)) (by rw [arr_size]; kernel_rfl) ?_) | (refine storeRow rfl rfl rfl rfl rfl (blkA (blkN (by simp))) (by rw [arr_size]; kernel_rfl) (by simp [arr_size]) (arr_one _ _ _) ?_; intro w1 hw1 hw2 hw3 hw4))
      exact retRow rfl rfl hw1 Try.underlying23 rfl (by rw [arr_size]; kernel_rfl) rfl ⟨by rw [pref_full], belT (belA (belA (belA (Below.refl _ _)))) hw3 (by omega)⟩

theorem zero100 : (Try.prog.info? 24).map (fun i => (i.zero, i.size)) = some (some (.agg (arr .u8 100 fun _ => 0)), 100) := by kernel_rfl
theorem size10 : (Try.prog.info? 23).map (·.size) = some 10 := by kernel_rfl
/-- The first k rows of ten. -/
theorem rows_step (c : Nat → Int) (k : Nat) (i : Nat) (_hi : i < 100) : (arr .u8 100 (pref c ((k + 1) * 10)))[i]? = if k * 10 ≤ i ∧ i < k * 10 + 10 then (arr .u8 10 (fun j => c (k * 10 + j)))[i - k * 10]? else (arr .u8 100 (pref c (k * 10)))[i]? := by
  by_cases h : k * 10 ≤ i ∧ i < k * 10 + 10
  · rw [if_pos h, arr_get _hi, arr_get (by omega)]
    simp only [pref]
    rw [if_pos (by omega), show k * 10 + (i - k * 10) = i by omega]
  · rw [if_neg h, arr_get _hi, arr_get _hi]
    simp only [pref]
    by_cases h2 : i < k * 10
    · rw [if_pos (by omega), if_pos h2]
    · rw [if_neg (by omega), if_neg h2]

set_option maxRecDepth 100000 in
set_option maxHeartbeats 1000000 in
theorem toByteA10A10 (c : Nat → Int) (w : World) :
    Calls Try.prog 23 #[.agg (arr .u8 100 c)] w fun e w' => e = .returned (.agg (arr .u8 100 c)) ∧ Below w.heap.size w w' := by
  obtain ⟨hz, hz2⟩ := zero_of_info zero100
  go_enter Try.func23, Try.ntmps23
  go_wp2
  go_loopw [4] (fun i wr => ∃ k : Nat, k ≤ 10 ∧ i = .int .i64 k ∧ Below w.heap.size w wr ∧ w.heap.size + 2 < wr.heap.size ∧ wr.heap[w.heap.size]? = some (.cells (arr .u8 100 c) 24 (0, 0)) ∧ wr.heap[w.heap.size + 1]? = some (.cells (arr .u8 100 fun _ => 0) 24 (0, 0)) ∧ wr.heap[w.heap.size + 1 + 1]? = some (.cells (arr .u8 100 (pref c (k * 10))) 24 (0, 0))) (fun i _ => 10 - (intOf i).toNat)
  case atStart => exact ⟨0, by omega, rfl, belA (belA (belA (Below.refl _ _))), by simp, blkA (blkA (blkN (by simp))), blkA (blkN (by simp)), by rw [Nat.zero_mul, pref_zero]; exact blkN (by simp)⟩
  case round =>
    obtain ⟨k, hk, rfl, hB, hS, h0, h1, h2⟩ := hrel
    by_cases hlt : k < 10
    · go_wp2_with (first | (refine loadMid 12 rfl rfl rfl rfl (kd := .u8) (m := 10) (c := fun j => c (k * 10 + j)) Try.underlying23 rfl h0 (fun i hi => arr_get (by omega)) size10 ?_) | (go_at_call 42; refine (toByteA10 _ _).mono ?_; rintro e w1 ⟨rfl, hb1⟩; have h0' := blkB hb1 h0 (by omega); have h1' := blkB hb1 h1 (by omega); have h2' := blkB hb1 h2 (by omega); have hB' := belW hB hb1; have hS' := hb1.size) | (refine storeMid rfl rfl rfl rfl rfl h2' (by rw [arr_size]; exact size10) (by simp only [arr_size]; omega) (arr_one _ _ _) (arr .u8 100 (pref c ((k + 1) * 10))) (by simp only [arr_size]) ?hc ?_; (case hc => intro i hi; rw [arr_size] at hi ⊢; exact rows_step c k i hi); intro w2 j1 j2 j3 j4))
      exact ⟨⟨k + 1, by omega, by go_num, belT hB' j3 (by omega), by omega, (j2 _ (by omega)).trans h0', (j2 _ (by omega)).trans h1', j1⟩, by simp [intOf]; omega⟩
    · obtain rfl : k = 10 := by omega
      go_wp2_with (first | (refine loadRow 15 rfl rfl rfl rfl Try.underlying24 rfl h2 (by rw [arr_size]; exact hz2) ?_) | (refine storeRow rfl rfl rfl rfl rfl h1 (by rw [arr_size]; exact hz2) (by simp only [arr_size]) (arr_one _ _ _) ?_; intro w1 j1 j2 j3 j4))
      exact retRow rfl rfl j1 Try.underlying24 rfl (by rw [arr_size]; exact hz2) rfl ⟨by rw [pref_full], belT hB j3 (by omega)⟩

theorem zeroLw : (Try.prog.info? 30).map (fun i => (i.zero, i.size)) = some (some (.agg (Lw.cells ⟨0, 0, fun _ => 0⟩)), 102) := by kernel_rfl

theorem lawnOver (L : Lw) (x y : Int) (i : Nat) (hi : i < 102) : (Lw.cells ⟨x, y, L.c⟩)[i]? = if 2 ≤ i ∧ i < 2 + (arr .u8 100 L.c).size then (arr .u8 100 L.c)[i - 2]? else (Lw.cells ⟨x, y, fun _ => 0⟩)[i]? := by
  rw [arr_size]
  by_cases h : 2 ≤ i ∧ i < 2 + 100
  · rw [if_pos h, arr_get (by omega)]
    obtain ⟨j, rfl⟩ : ∃ j, i = 2 + j := ⟨i - 2, by omega⟩
    rw [Lw.get2 _ (by omega)]; simp
  · rw [if_neg h]
    by_cases e0 : i = 0
    · subst e0; rw [Lw.get0, Lw.get0]
    · obtain rfl : i = 1 := by omega
      rw [Lw.get1, Lw.get1]

set_option maxRecDepth 100000 in
set_option maxHeartbeats 1000000 in
theorem toLawn (L : Lw) (w : World) :
    Calls Try.prog 9 #[.agg L.cells] w fun e w' => e = .returned (.agg L.cells) ∧ Below w.heap.size w w' := by
  obtain ⟨hz, hz2⟩ := zero_of_info zeroLw
  have g0 := L.get0
  have g1 := L.get1
  have z0 := Lw.get0 ⟨0, 0, fun _ => 0⟩
  have z1 := Lw.get1 ⟨L.wide, 0, fun _ => 0⟩
  have s0 := Lw.set0 ⟨0, 0, fun _ => 0⟩ L.wide
  have s1 := Lw.set1 ⟨L.wide, 0, fun _ => 0⟩ L.high
  go_enter Try.func9, Try.ntmps9
  go_wp2_with (first | (refine loadMid 11 rfl rfl rfl rfl (kd := .u8) (m := 100) (c := L.c) Try.underlying24 rfl (blkA (blkA (blkN (by simp)))) (fun i hi => L.get2 hi) (zero_of_info zero100).2 ?_) | (go_at_call 23; refine (toByteA10A10 _ _).mono ?_; rintro e w1 ⟨rfl, hb⟩; have hB := belW (belA (belA (belA (Below.refl _ _)))) hb; have h1 : w1.heap[w.heap.size + 1]? = some (.cells (Lw.cells ⟨0, 0, fun _ => 0⟩) 30 (0, 0)) := blkB hb (blkA (blkN (by simp))) (by simp); have h2 : w1.heap[w.heap.size + 1 + 1]? = some (.cells (Lw.cells ⟨L.wide, L.high, fun _ => 0⟩) 30 (0, 0)) := blkB hb (blkN (by simp)) (by simp)) | (refine storeMid rfl rfl rfl rfl rfl h2 (by rw [arr_size]; exact (zero_of_info zero100).2) (by simp only [arr_size, Lw.size]; omega) (arr_one _ _ _) (Lw.cells ⟨L.wide, L.high, L.c⟩) (by simp only [Lw.size]) ?hc ?_; (case hc => intro i hi; rw [Lw.size] at hi; exact lawnOver L _ _ i hi); intro w2 j1 j2 j3 j4; have h1' := (j2 _ (by omega)).trans h1) | (refine loadRow 14 rfl rfl rfl rfl Try.underlying30 rfl j1 (by rw [Lw.size]; exact hz2) ?_) | (refine storeRow rfl rfl rfl rfl rfl h1' (by rw [Lw.size]; exact hz2) (by simp only [Lw.size]) (Lw.one _) ?_; intro w3 k1 k2 k3 k4))
  exact retRow rfl rfl k1 Try.underlying30 rfl (by rw [Lw.size]; exact hz2) rfl ⟨rfl, belT (belT hB j3 (by omega)) k3 (by omega)⟩
end Go.Proofs.Ytchhjdjdhlfhlaa.L
