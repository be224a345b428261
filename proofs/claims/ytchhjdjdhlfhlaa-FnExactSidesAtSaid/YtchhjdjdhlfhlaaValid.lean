/- Walks: which lawns are valid. -/
import Derived.Test.YtchhjdjdhlfhlaaLawn
import Derived.Lib.Hide
namespace Go.Proofs.Ytchhjdjdhlfhlaa.L
set_option linter.unusedSimpArgs false
set_option linter.unusedVariables false
open Go.RowKit Go.Proofs.Ytchhjdjdhlfhlaa.B

/-- Has a lawn this cell? -/
def hasB (L : Lw) (x y : Int) : Bool := decide (0 ≤ x) && (decide (x < L.wide) && (decide (0 ≤ y) && decide (y < L.high)))
theorem size28 : (Try.prog.info? 30).map (·.size) = some 102 := (zero_of_info zeroLw).2

set_option maxRecDepth 100000 in
set_option maxHeartbeats 1000000 in
theorem has (L : Lw) (x y : Int) (w : World) :
    Calls Try.prog 45 #[.agg L.cells, .agg #[.int .i8 x, .int .i8 y]] w fun e w' => e = .returned (.bool (hasB L x y)) ∧ Below w.heap.size w w' := by
  have g0 := L.get0
  have g1 := L.get1
  cases b1 : decide (0 ≤ x)
  · go_enter Try.func45, Try.ntmps45
    go_wp2
    go_ret
    exact ⟨by simp [hasB, b1], belA (belA (Below.refl _ _))⟩
  · cases b2 : decide (x < L.wide)
    · go_enter Try.func45, Try.ntmps45
      go_wp2
      go_ret
      exact ⟨by simp [hasB, b2], belA (belA (Below.refl _ _))⟩
    · cases b3 : decide (0 ≤ y)
      · go_enter Try.func45, Try.ntmps45
        go_wp2
        go_ret
        exact ⟨by simp [hasB, b3], belA (belA (Below.refl _ _))⟩
      · go_enter Try.func45, Try.ntmps45
        go_wp2
        go_ret
        exact ⟨by simp [hasB, b1, b2, b3], belA (belA (Below.refl _ _))⟩

/-- The numbers of a lawn are of their kinds. -/
def Lw.Ok (L : Lw) : Prop := -128 ≤ L.wide ∧ L.wide ≤ 127 ∧ -128 ≤ L.high ∧ L.high ≤ 127 ∧ ∀ i, i < 100 → 0 ≤ L.c i ∧ L.c i ≤ 255
/-- A cell is as it should be. -/
def fineB (L : Lw) (i : Nat) : Bool := decide (L.c i ≤ 3) && (L.c i == 0 || hasB L (i % 10 : Nat) (i / 10 : Nat))
def sideB (n : Int) : Bool := decide (1 ≤ n) && decide (n ≤ 10)
/-- Is a lawn valid? -/
def validB (L : Lw) : Bool := sideB L.wide && (sideB L.high && (List.range 100).all (fineB L))
theorem validB_bad {L : Lw} {i : Nat} (hi : i < 100) (h : fineB L i = false) : validB L = false := by
  unfold validB
  have : (List.range 100).all (fineB L) = false := by
    rw [List.all_eq_false]
    exact ⟨i, by simpa using hi, by simp [h]⟩
  simp [this]
theorem validB_good {L : Lw} (h1 : sideB L.wide = true) (h2 : sideB L.high = true) (h : ∀ i, i < 100 → fineB L i = true) : validB L = true := by
  unfold validB
  simp only [h1, h2, Bool.true_and, List.all_eq_true, List.mem_range]
  exact h
/-- The state at the head of a row's round. -/
def VRel (L : Lw) (w wr : World) (n : Nat) : Prop := (∀ i, i < n → fineB L i = true) ∧ Below w.heap.size w wr ∧ wr.heap[w.heap.size]? = some (.cells L.cells 30 (0, 0))

theorem fineB_at (L : Lw) {k j : Nat} (hj : j < 10) : fineB L (k * 10 + j) = (decide (L.c (k * 10 + j) ≤ 3) && (L.c (k * 10 + j) == 0 || hasB L j k)) := by
  unfold fineB
  rw [show (k * 10 + j) % 10 = j by omega, show (k * 10 + j) / 10 = k by omega]
theorem VRel.next {L : Lw} {w wr : World} {n : Nat} (h : VRel L w wr n) (hf : fineB L n = true) : VRel L w wr (n + 1) :=
  ⟨fun i hi => by
    by_cases e : i = n
    · subst e; exact hf
    · exact h.1 i (by omega), h.2⟩
theorem VRel.below {L : Lw} {w wr w1 : World} {n : Nat} (h : VRel L w wr n) (hb : Below wr.heap.size wr w1) : VRel L w w1 n :=
  ⟨h.1, belW h.2.1 hb, blkB hb h.2.2 (blkLt h.2.2)⟩

set_option maxRecDepth 100000 in
set_option maxHeartbeats 1000000 in
theorem valid (L : Lw) (hL : Lw.Ok L) (w : World) :
    Calls Try.prog 26 #[.agg L.cells] w fun e w' => e = .returned (.bool (validB L)) ∧ Below w.heap.size w w' := by
  obtain ⟨l1, l2, l3, l4, l5⟩ := hL
  have g0 := L.get0
  have g1 := L.get1
  cases b1 : decide (1 ≤ L.wide)
  · go_enter Try.func26, Try.ntmps26
    go_wp2
    go_ret
    exact ⟨by simp [validB, sideB, b1], belA (Below.refl _ _)⟩
  cases b2 : decide (L.wide ≤ 10)
  · go_enter Try.func26, Try.ntmps26
    go_wp2
    go_ret
    exact ⟨by simp [validB, sideB, b2], belA (Below.refl _ _)⟩
  cases b3 : decide (1 ≤ L.high)
  · go_enter Try.func26, Try.ntmps26
    go_wp2
    go_ret
    exact ⟨by simp [validB, sideB, b3], belA (Below.refl _ _)⟩
  cases b4 : decide (L.high ≤ 10)
  · go_enter Try.func26, Try.ntmps26
    go_wp2
    go_ret
    exact ⟨by simp [validB, sideB, b4], belA (Below.refl _ _)⟩
  have s1 : sideB L.wide = true := by simp [sideB, b1, b2]
  have s2 : sideB L.high = true := by simp [sideB, b3, b4]
  have S1 := Lib.hid s1
  have S2 := Lib.hid s2
  clear s1 s2
  go_enter Try.func26, Try.ntmps26
  go_wp2
  clear b1 b2 b3 b4 g0 g1
  go_loopw [18] (fun y wr => ∃ k : Nat, k ≤ 10 ∧ y = .int .i8 k ∧ VRel L w wr (k * 10)) (fun y _ => 10 - (intOf y).toNat)
  case atStart => exact ⟨0, by omega, rfl, fun i hi => by omega, belA (Below.refl _ _), blkN rfl⟩
  case round =>
    obtain ⟨k, hk, rfl, hr⟩ := hrel
    by_cases hlt : k < 10
    · have hd : decide ((k : Int) < 10) = true := by simp; omega
      go_wp2
      go_loopw [21] (fun x wr => ∃ j : Nat, j ≤ 10 ∧ x = .int .i8 j ∧ VRel L w wr (k * 10 + j)) (fun x _ => 10 - (intOf x).toNat)
      case atStart => exact ⟨0, by omega, rfl, hr⟩
      case round =>
        obtain ⟨j, hj, rfl, hr⟩ := hrel
        by_cases hjt : j < 10
        · have hd2 : decide ((j : Int) < 10) = true := by simp; omega
          have hr3 := hr.2.2
          have hc := blkC hr3
          have hn : k * 10 + j < 100 := by omega
          obtain ⟨v, hv⟩ : ∃ v, v = L.c (k * 10 + j) := ⟨_, rfl⟩
          have g2 := L.getYX hn
          rw [← hv] at g2
          have HF := fineB_at L (k := k) hjt
          rw [← hv] at HF
          have HF := Lib.hid HF
          clear hv
          rcases twoways (decide (3 < v)) with b1 | b1
          · rcases twoways (v != 0) with b2 | b2
            · go_wp2
              exact ⟨⟨j + 1, by omega, by go_num, hr.next (by rw [HF.out]; simp at b1 b2; simp [b2])⟩, by simp [intOf]; omega⟩
            · rcases twoways (hasB L j k) with b3 | b3
              · go_wp2_with (first | (refine loadRowG 36 rfl rfl rfl rfl Try.underlying30 rfl hr3 (by rw [Lw.size]; exact size28) ?_) | (go_at_call 45; refine (has _ _ _ _).mono ?_; rintro e w1 ⟨rfl, hb⟩))
                go_ret
                exact ⟨by rw [validB_bad hn (by rw [HF.out]; simp at b2; simp [b2, b3])]; rfl, belW hr.2.1 hb⟩
              · go_wp2_with (first | (refine loadRowG 36 rfl rfl rfl rfl Try.underlying30 rfl hr3 (by rw [Lw.size]; exact size28) ?_) | (go_at_call 45; refine (has _ _ _ _).mono ?_; rintro e w1 ⟨rfl, hb⟩))
                refine ⟨?_, by simp [intOf]; omega⟩
                repeat apply Exists.intro
                exact ⟨⟨j + 1, by omega, by go_num, (hr.below hb).next (by rw [HF.out]; simp at b1; simp [b1, b3])⟩, rfl⟩
          · go_wp2
            go_ret
            exact ⟨by rw [validB_bad hn (by rw [HF.out]; simp at b1; simp only [decide_eq_false (show ¬ v ≤ 3 by omega), Bool.false_and])]; rfl, hr.2.1⟩
        · go_wp2
          exact ⟨⟨k + 1, by omega, by go_num, by rw [show (k + 1) * 10 = k * 10 + j by omega]; exact hr⟩, by simp [intOf]; omega⟩
    · go_wp2
      go_ret
      exact ⟨by rw [validB_good S1.out S2.out (fun i hi => hr.1 i (by omega))]; rfl, hr.2.1⟩
end Go.Proofs.Ytchhjdjdhlfhlaa.L
