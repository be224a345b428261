/- Walks: levels laid anew; which levels are valid. -/
import Derived.Test.YtchhjdjdhlfhlaaGrass
namespace Go.Proofs.Ytchhjdjdhlfhlaa.L
set_option linter.unusedSimpArgs false
set_option linter.unusedVariables false
open Go.RowKit Go.Proofs.Ytchhjdjdhlfhlaa.B

theorem zero10i : arr .i8 10 (fun _ => 0) = #[.int .i8 0, .int .i8 0, .int .i8 0, .int .i8 0, .int .i8 0, .int .i8 0, .int .i8 0, .int .i8 0, .int .i8 0, .int .i8 0] := by kernel_rfl

set_option maxRecDepth 100000 in
set_option maxHeartbeats 1000000 in
theorem toInt8A10 (c : Nat → Int) (w : World) :
    Calls Try.prog 24 #[.agg (arr .i8 10 c)] w fun e w' => e = .returned (.agg (arr .i8 10 c)) ∧ Below w.heap.size w w' := by
  go_enter Try.func24, Try.ntmps24
  go_wp2
  rw [← zero10i, ← pref_zero .i8 10 c]
  go_loopw [4] (fun i wr => ∃ k : Nat, k ≤ 10 ∧ i = .int .i64 k ∧ wr = ((w.alloc (.cells (arr .i8 10 c) 27)).alloc (.cells (arr .i8 10 (pref c 0)) 27)).alloc (.cells (arr .i8 10 (pref c k)) 27)) (fun i _ => 10 - (intOf i).toNat)
  case atStart => exact ⟨0, by omega, rfl, rfl⟩
  case round =>
    obtain ⟨k, hk, rfl, rfl⟩ := hrel
    by_cases hlt : k < 10
    · have hg := arr_get (k := .i8) (c := c) hlt
      have hg2 := arr_get (k := .i8) (c := pref c k) hlt
      go_wp2
      exact ⟨⟨k + 1, by omega, by go_num, by rw [pref_step]⟩, by simp [intOf]; omega⟩
    · obtain rfl : k = 10 := by omega
      go_wp2_with (first | (refine loadRow 14 rfl rfl rfl rfl Try.underlying27 rfl (blkN (by simp)) (by rw [arr_size]; kernel_rfl) ?_) | (refine storeRow rfl rfl rfl rfl rfl (blkA (blkN (by simp))) (by rw [arr_size]; kernel_rfl) (by simp [arr_size]) (arr_one _ _ _) ?_; intro w1 hw1 hw2 hw3 hw4))
      exact retRow rfl rfl hw1 Try.underlying27 rfl (by rw [arr_size]; kernel_rfl) rfl ⟨by rw [pref_full], belT (belA (belA (belA (Below.refl _ _)))) hw3 (by omega)⟩

theorem zero100i : (Try.prog.info? 32).map (fun i => (i.zero, i.size)) = some (some (.agg (arr .i8 100 fun _ => 0)), 100) := by kernel_rfl
theorem size10i : (Try.prog.info? 27).map (·.size) = some 10 := by kernel_rfl
theorem size100i : (Try.prog.info? 28).map (·.size) = some 100 := by kernel_rfl
/-- The first k rows of ten. -/
theorem rows_stepi (c : Nat → Int) (k : Nat) (i : Nat) (_hi : i < 100) : (arr .i8 100 (pref c ((k + 1) * 10)))[i]? = if k * 10 ≤ i ∧ i < k * 10 + 10 then (arr .i8 10 (fun j => c (k * 10 + j)))[i - k * 10]? else (arr .i8 100 (pref c (k * 10)))[i]? := by
  by_cases h : k * 10 ≤ i ∧ i < k * 10 + 10
  · rw [if_pos h, arr_get _hi, arr_get (by omega)]
    simp only [pref]
    rw [if_pos (by omega), show k * 10 + (i - k * 10) = i by omega]
  · rw [if_neg h, arr_get _hi, arr_get _hi]
    simp only [pref]
    by_cases h2 : i < k * 10
    · rw [if_pos (by omega), if_pos h2]
    · rw [if_neg (by omega), if_neg h2]

set_option maxRecDepth 100000 in
set_option maxHeartbeats 1000000 in
theorem toLevels (c : Nat → Int) (w : World) :
    Calls Try.prog 10 #[.agg (arr .i8 100 c)] w fun e w' => e = .returned (.agg (arr .i8 100 c)) ∧ Below w.heap.size w w' := by
  obtain ⟨hz, hz2⟩ := zero_of_info zero100i
  go_enter Try.func10, Try.ntmps10
  go_wp2
  go_loopw [4] (fun i wr => ∃ k : Nat, k ≤ 10 ∧ i = .int .i64 k ∧ Below w.heap.size w wr ∧ w.heap.size + 2 < wr.heap.size ∧ wr.heap[w.heap.size]? = some (.cells (arr .i8 100 c) 28 (0, 0)) ∧ wr.heap[w.heap.size + 1]? = some (.cells (arr .i8 100 fun _ => 0) 32 (0, 0)) ∧ wr.heap[w.heap.size + 1 + 1]? = some (.cells (arr .i8 100 (pref c (k * 10))) 32 (0, 0))) (fun i _ => 10 - (intOf i).toNat)
  case atStart => exact ⟨0, by omega, rfl, belA (belA (belA (Below.refl _ _))), by simp, blkA (blkA (blkN (by simp))), blkA (blkN (by simp)), by rw [Nat.zero_mul, pref_zero]; exact blkN (by simp)⟩
  case round =>
    obtain ⟨k, hk, rfl, hB, hS, h0, h1, h2⟩ := hrel
    by_cases hlt : k < 10
    · go_wp2_with (first | (refine loadMid 12 rfl rfl rfl rfl (kd := .i8) (m := 10) (c := fun j => c (k * 10 + j)) Try.underlying27 rfl h0 (fun i hi => arr_get (by omega)) size10i ?_) | (go_at_call 24; refine (toInt8A10 _ _).mono ?_; rintro e w1 ⟨rfl, hb1⟩; have h0' := blkB hb1 h0 (by omega); have h1' := blkB hb1 h1 (by omega); have h2' := blkB hb1 h2 (by omega); have hB' := belW hB hb1; have hS' := hb1.size) | (refine storeMid rfl rfl rfl rfl rfl h2' (by rw [arr_size]; exact size10i) (by simp only [arr_size]; omega) (arr_one _ _ _) (arr .i8 100 (pref c ((k + 1) * 10))) (by simp only [arr_size]) ?hc ?_; (case hc => intro i hi; rw [arr_size] at hi ⊢; exact rows_stepi c k i hi); intro w2 j1 j2 j3 j4))
      exact ⟨⟨k + 1, by omega, by go_num, belT hB' j3 (by omega), by omega, (j2 _ (by omega)).trans h0', (j2 _ (by omega)).trans h1', j1⟩, by simp [intOf]; omega⟩
    · obtain rfl : k = 10 := by omega
      go_wp2_with (first | (refine loadRow 15 rfl rfl rfl rfl Try.underlying32 rfl h2 (by rw [arr_size]; exact hz2) ?_) | (refine storeRow rfl rfl rfl rfl rfl h1 (by rw [arr_size]; exact hz2) (by simp only [arr_size]) (arr_one _ _ _) ?_; intro w1 j1 j2 j3 j4))
      exact retRow rfl rfl j1 Try.underlying32 rfl (by rw [arr_size]; exact hz2) rfl ⟨by rw [pref_full], belT hB j3 (by omega)⟩

/-- A level is as it should be. -/
def levOk (L : Lw) (v : Nat → Int) (i : Nat) : Bool := decide (-9 ≤ v i) && (decide (v i ≤ 9) && (v i == 0 || isB L 0 (i % 10 : Nat) (i / 10 : Nat)))
/-- Are the levels valid? -/
def levB (L : Lw) (v : Nat → Int) : Bool := validB L && (List.range 100).all (levOk L v)
theorem levB_bad {L : Lw} {v : Nat → Int} {i : Nat} (hi : i < 100) (h : levOk L v i = false) : levB L v = false := by
  unfold levB
  have : (List.range 100).all (levOk L v) = false := by
    rw [List.all_eq_false]
    exact ⟨i, by simpa using hi, by simp [h]⟩
  simp [this]
theorem levB_good {L : Lw} {v : Nat → Int} (h : ∀ i, i < 100 → levOk L v i = true) : levB L v = validB L := by
  unfold levB
  have : (List.range 100).all (levOk L v) = true := by
    simp only [List.all_eq_true, List.mem_range]
    exact h
  simp [this]
theorem levOk_at (L : Lw) (v : Nat → Int) {k j : Nat} (hj : j < 10) : levOk L v (k * 10 + j) = (decide (-9 ≤ v (k * 10 + j)) && (decide (v (k * 10 + j) ≤ 9) && (v (k * 10 + j) == 0 || isB L 0 j k))) := by
  unfold levOk
  rw [show (k * 10 + j) % 10 = j by omega, show (k * 10 + j) / 10 = k by omega]

/-- The state at the head of a round. -/
def LRel (L : Lw) (v : Nat → Int) (w wr : World) (n : Nat) : Prop := (∀ i, i < n → levOk L v i = true) ∧ Below w.heap.size w wr ∧ wr.heap[w.heap.size]? = some (.cells L.cells 30 (0, 0)) ∧ wr.heap[w.heap.size + 1]? = some (.cells (arr .i8 100 v) 32 (0, 0))
theorem LRel.next {L : Lw} {v : Nat → Int} {w wr : World} {n : Nat} (h : LRel L v w wr n) (hf : levOk L v n = true) : LRel L v w wr (n + 1) :=
  ⟨fun i hi => by
    by_cases e : i = n
    · subst e; exact hf
    · exact h.1 i (by omega), h.2⟩
theorem LRel.below {L : Lw} {v : Nat → Int} {w wr w1 : World} {n : Nat} (h : LRel L v w wr n) (hb : Below wr.heap.size wr w1) : LRel L v w w1 n :=
  ⟨h.1, belW h.2.1 hb, blkB hb h.2.2.1 (blkLt h.2.2.1), blkB hb h.2.2.2 (blkLt h.2.2.2)⟩

set_option maxRecDepth 100000 in
set_option maxHeartbeats 2000000 in
theorem validLevels (L : Lw) (hL : Lw.Ok L) (v : Nat → Int) (hv : ∀ i, i < 100 → -128 ≤ v i ∧ v i ≤ 127) (w : World) :
    Calls Try.prog 11 #[.agg L.cells, .agg (arr .i8 100 v)] w fun e w' => e = .returned (.bool (levB L v)) ∧ Below w.heap.size w w' := by
  go_enter Try.func11, Try.ntmps11
  go_wp2
  go_loopw [8] (fun y wr => ∃ k : Nat, k ≤ 10 ∧ y = .int .i8 k ∧ LRel L v w wr (k * 10)) (fun y _ => 10 - (intOf y).toNat)
  case atStart => exact ⟨0, by omega, rfl, fun i hi => by omega, belA (belA (Below.refl _ _)), blkA (blkN rfl), blkN (by simp)⟩
  case round =>
    obtain ⟨k, hk, rfl, hr⟩ := hrel
    by_cases hlt : k < 10
    · have hd : decide ((k : Int) < 10) = true := by simp; omega
      go_wp2
      go_loopw [11] (fun x wr => ∃ j : Nat, j ≤ 10 ∧ x = .int .i8 j ∧ LRel L v w wr (k * 10 + j)) (fun x _ => 10 - (intOf x).toNat)
      case atStart => exact ⟨0, by omega, rfl, hr⟩
      case round =>
        obtain ⟨j, hj, rfl, hr⟩ := hrel
        by_cases hjt : j < 10
        · have hd2 : decide ((j : Int) < 10) = true := by simp; omega
          have hr3 := hr.2.2.1
          have hn : k * 10 + j < 100 := by omega
          have HF := levOk_at L v (k := k) hjt
          obtain ⟨n, hn2⟩ : ∃ n, n = v (k * 10 + j) := ⟨_, rfl⟩
          have g2 := arr_get (k := .i8) (c := v) hn
          rw [← hn2] at g2 HF
          have c0 : wr.cell? ⟨w.heap.size + 1, k * 10 + j, none⟩ = some (.int .i8 n) := (blkC hr.2.2.2 _).trans g2
          clear hn2 g2
          have HF := Lib.hid HF
          rcases twoways (decide (n < -9)) with b0 | b0
          · rcases twoways (decide (9 < n)) with b1 | b1
            · rcases twoways (n != 0) with b2 | b2
              · go_wp2
                exact ⟨⟨j + 1, by omega, by go_num, hr.next (by rw [HF.out]; simp at b0 b1 b2; simp [b2])⟩, by simp [intOf]; omega⟩
              · have HG := fun (w : World) => grass L hL j k (fun _ => ⟨by omega, by omega⟩) w
                rcases twoways (isB L 0 j k) with b3 | b3
                · rw [b3] at HG
                  have HG := Lib.hid HG
                  go_wp2_with (first | (refine loadRowG 29 rfl rfl rfl rfl Try.underlying30 rfl hr3 (by rw [Lw.size]; exact size28) ?_) | (go_at_call 25; refine (HG.out _).mono ?_; rintro e w1 ⟨rfl, hb⟩))
                  go_ret
                  exact ⟨by rw [levB_bad hn (by rw [HF.out]; simp at b2; simp [b2, b3])]; rfl, belW hr.2.1 hb⟩
                · rw [b3] at HG
                  have HG := Lib.hid HG
                  go_wp2_with (first | (refine loadRowG 29 rfl rfl rfl rfl Try.underlying30 rfl hr3 (by rw [Lw.size]; exact size28) ?_) | (go_at_call 25; refine (HG.out _).mono ?_; rintro e w1 ⟨rfl, hb⟩))
                  refine ⟨?_, by simp [intOf]; omega⟩
                  first
                    | exact ⟨j + 1, by omega, by go_num, (hr.below hb).next (by rw [HF.out]; simp at b0 b1; simp [b0, b1, b3])⟩
                    | ((repeat apply Exists.intro); exact ⟨⟨j + 1, by omega, by go_num, (hr.below hb).next (by rw [HF.out]; simp at b0 b1; simp [b0, b1, b3])⟩, rfl⟩)
            · go_wp2
              go_ret
              exact ⟨by rw [levB_bad hn (by rw [HF.out]; simp at b1; simp only [decide_eq_false (show ¬ n ≤ 9 by omega), Bool.false_and, Bool.and_false])]; rfl, hr.2.1⟩
          · go_wp2
            go_ret
            exact ⟨by rw [levB_bad hn (by rw [HF.out]; simp at b0; simp only [decide_eq_false (show ¬ -9 ≤ n by omega), Bool.false_and])]; rfl, hr.2.1⟩
        · go_wp2
          exact ⟨⟨k + 1, by omega, by go_num, by rw [show (k + 1) * 10 = k * 10 + j by omega]; exact hr⟩, by simp [intOf]; omega⟩
    · have hV := valid L hL
      have HV := Lib.hid hV
      clear hV
      have hr3 := hr.2.2.1
      go_wp2_with (first | (refine loadRow 39 rfl rfl rfl rfl Try.underlying30 rfl hr3 (by rw [Lw.size]; exact size28) ?_) | (go_at_call 26; refine (HV.out _).mono ?_; rintro e w1 ⟨rfl, hb⟩))
      go_ret
      exact ⟨by rw [levB_good (fun i hi => hr.1 i (by omega))]; rfl, belW hr.2.1 hb⟩
end Go.Proofs.Ytchhjdjdhlfhlaa.L
