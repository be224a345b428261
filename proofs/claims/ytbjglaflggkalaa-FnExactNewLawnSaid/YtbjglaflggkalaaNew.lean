/- Walks: a new lawn. -/
import Derived.Test.YtbjglaflggkalaaEq
import Derived.Test.YtbjglaflggkalaaValid
namespace Go.Proofs.Ytbjglaflggkalaa.L
set_option linter.unusedSimpArgs false
set_option linter.unusedVariables false
open Go.RowKit Go.Proofs.Ytbjglaflggkalaa.B

/-- A new lawn, and its code. -/
def newL (a b : Int) : Lw := if 1 ≤ a ∧ a ≤ 10 ∧ 1 ≤ b ∧ b ≤ 10 then ⟨a, b, fun _ => 0⟩ else ⟨0, 0, fun _ => 0⟩
def newC (a b : Int) : Int := if 1 ≤ a ∧ a ≤ 10 ∧ 1 ≤ b ∧ b ≤ 10 then 0 else 2
theorem newL_cases (a b : Int) :
    ((decide (1 ≤ a) = false ∨ (decide (1 ≤ a) = true ∧ decide (a ≤ 10) = false) ∨ (decide (1 ≤ a) = true ∧ decide (a ≤ 10) = true ∧ decide (1 ≤ b) = false) ∨ (decide (1 ≤ a) = true ∧ decide (a ≤ 10) = true ∧ decide (1 ≤ b) = true ∧ decide (b ≤ 10) = false)) ∧ newL a b = ⟨0, 0, fun _ => 0⟩ ∧ newC a b = 2) ∨
    (1 ≤ a ∧ a ≤ 10 ∧ 1 ≤ b ∧ b ≤ 10 ∧ newL a b = ⟨a, b, fun _ => 0⟩ ∧ newC a b = 0) := by
  unfold newL newC
  by_cases h : 1 ≤ a ∧ a ≤ 10 ∧ 1 ≤ b ∧ b ≤ 10
  · rw [if_pos h, if_pos h]; exact .inr ⟨h.1, h.2.1, h.2.2.1, h.2.2.2, rfl, rfl⟩
  · rw [if_neg h, if_neg h]; refine .inl ⟨?_, rfl, rfl⟩; simp; omega

set_option maxRecDepth 100000 in
set_option maxHeartbeats 1000000 in
theorem newLawn (a b : Int) (w : World) :
    Calls Try.prog 8 #[.int .i64 a, .int .i64 b] w fun e w' => e = .returned (.tuple #[.agg (newL a b).cells, .int .i64 (newC a b)]) ∧ Below w.heap.size w w' := by
  obtain ⟨hz, _⟩ := zero_of_info zeroLw
  have hz1 := Lw.ne ⟨0, 0, fun _ => 0⟩
  have hz2 := Lw.size ⟨0, 0, fun _ => 0⟩
  have s0 := Lw.set0 ⟨0, 0, fun _ => 0⟩ a
  have s1 := Lw.set1 ⟨a, 0, fun _ => 0⟩ b
  rcases newL_cases a b with ⟨hb, e1, e2⟩ | ⟨h1, h2, h3, h4, e1, e2⟩
  · rw [e1, e2]
    clear e1 e2 s0 s1
    rcases hb with b1 | ⟨b1, b2⟩ | ⟨b1, b2, b3⟩ | ⟨b1, b2, b3, b4⟩
    all_goals
      go_enter Try.func8, Try.ntmps8
      go_wp2_with (first | (refine storeRow rfl rfl rfl rfl rfl (blkN rfl) (by rw [Lw.size]; exact size28) rfl (Lw.one _) ?_; intro w1 j1 j2 j3 j4) | go_in)
      exact retRowTmp rfl rfl rfl j1 Try.underlying26 rfl (by rw [Lw.size]; exact size28) rfl ⟨rfl, belT (belA (Below.refl _ _)) j3 (by omega)⟩
  · rw [e1, e2]
    have x1 : IntKind.i8.wrap a = a := i8_in (by omega) (by omega)
    have x2 : IntKind.i8.wrap b = b := i8_in (by omega) (by omega)
    have b1 : decide (1 ≤ a) = true := by simp; omega
    have b2 : decide (a ≤ 10) = true := by simp; omega
    have b3 : decide (1 ≤ b) = true := by simp; omega
    have b4 : decide (b ≤ 10) = true := by simp; omega
    clear e1 e2
    go_enter Try.func8, Try.ntmps8
    go_wp2_with (first | (refine storeRow rfl rfl rfl rfl rfl (blkN rfl) (by rw [Lw.size]; exact size28) (by simp only [Lw.size]) (Lw.one _) ?_; intro w1 j1 j2 j3 j4) | go_in)
    exact retRowTmp rfl rfl rfl j1 Try.underlying26 rfl (by rw [Lw.size]; exact size28) rfl ⟨rfl, belT (belA (Below.refl _ _)) j3 (by omega)⟩
set_option maxRecDepth 100000 in
set_option maxHeartbeats 1000000 in
theorem sNewLawn (a b : Int) (w : World) :
    Calls Try.prog 7 #[.int .i64 a, .int .i64 b] w fun e w' => e = .returned (.tuple #[.agg (newL a b).cells, .int .i64 (newC a b)]) ∧ Below w.heap.size w w' := by
  obtain ⟨hz, _⟩ := zero_of_info zeroLw
  have hz1 := Lw.ne ⟨0, 0, fun _ => 0⟩
  have hz2 := Lw.size ⟨0, 0, fun _ => 0⟩
  have s0 := Lw.set0 ⟨0, 0, fun _ => 0⟩ a
  have s1 := Lw.set1 ⟨a, 0, fun _ => 0⟩ b
  rcases newL_cases a b with ⟨hb, e1, e2⟩ | ⟨h1, h2, h3, h4, e1, e2⟩
  · rw [e1, e2]
    clear e1 e2 s0 s1
    rcases hb with b1 | ⟨b1, b2⟩ | ⟨b1, b2, b3⟩ | ⟨b1, b2, b3, b4⟩
    all_goals
      go_enter Try.func7, Try.ntmps7
      go_wp2_with (first | (refine storeRow rfl rfl rfl rfl rfl (blkN rfl) (by rw [Lw.size]; exact size28) rfl (Lw.one _) ?_; intro w1 j1 j2 j3 j4) | go_in)
      exact retRowTmp rfl rfl rfl j1 Try.underlying26 rfl (by rw [Lw.size]; exact size28) rfl ⟨rfl, belT (belA (Below.refl _ _)) j3 (by omega)⟩
  · rw [e1, e2]
    have x1 : IntKind.i8.wrap a = a := i8_in (by omega) (by omega)
    have x2 : IntKind.i8.wrap b = b := i8_in (by omega) (by omega)
    have b1 : decide (1 ≤ a) = true := by simp; omega
    have b2 : decide (a ≤ 10) = true := by simp; omega
    have b3 : decide (1 ≤ b) = true := by simp; omega
    have b4 : decide (b ≤ 10) = true := by simp; omega
    clear e1 e2
    go_enter Try.func7, Try.ntmps7
    go_wp2_with (first | (refine storeRow rfl rfl rfl rfl rfl (blkN rfl) (by rw [Lw.size]; exact size28) (by simp only [Lw.size]) (Lw.one _) ?_; intro w1 j1 j2 j3 j4) | go_in)
    exact retRowTmp rfl rfl rfl j1 Try.underlying26 rfl (by rw [Lw.size]; exact size28) rfl ⟨rfl, belT (belA (Below.refl _ _)) j3 (by omega)⟩

set_option maxRecDepth 100000 in
set_option maxHeartbeats 1000000 in
theorem lawNewLawn (a b : Int) (w : World) :
    Calls Try.prog 3 #[.int .i64 a, .int .i64 b] w fun e w' => e = .returned (.bool true) ∧ Below w.heap.size w w' := by
  obtain ⟨hz, _⟩ := zero_of_info zeroLw
  go_enter Try.func3, Try.ntmps3
  go_wp2_with (first | (go_at_call 7; refine (sNewLawn _ _ _).mono ?_; rintro e w1 ⟨rfl, hb⟩) | (go_at_call 8; refine (newLawn _ _ _).mono ?_; rintro e w3 ⟨rfl, hb3⟩; have hB3 := belW hB2 hb3; have h3 := blkB hb3 j1 (blkLt j1)) | ((with_reducible refine gateStore (p := 5) rfl ?_); refine storeRow rfl rfl rfl rfl rfl (blkN (g := w1.heap.size) rfl) (by rw [Lw.size]; exact size28) (by simp only [Lw.size]) (Lw.one _) ?_; intro w2 j1 j2 j3 j4; have hB2 := belT (belA (belW (Below.refl _ _) hb)) j3 hb.size) | ((with_reducible refine gateStore (p := 7) rfl ?_); refine storeRow rfl rfl rfl rfl rfl (blkN (g := w3.heap.size) rfl) (by rw [Lw.size]; exact size28) (by simp only [Lw.size]) (Lw.one _) ?_; intro w4 k1 k2 k3 k4; have hB4 := belT (belA hB3) k3 hB3.size; have h4 := (k2 _ (Nat.ne_of_lt (blkLt h3))).trans (blkA h3)) | (refine loadRow 21 rfl rfl rfl rfl Try.underlying26 rfl k1 (by rw [Lw.size]; exact size28) ?_) | (refine loadRow 22 rfl rfl rfl rfl Try.underlying26 rfl h4 (by rw [Lw.size]; exact size28) ?_) | (go_at_call 9; refine (eqLawn _ _).mono ?_; rintro e w5 ⟨rfl, hb5⟩))
  go_ret
  exact ⟨rfl, belW hB4 hb5⟩
end Go.Proofs.Ytbjglaflggkalaa.L
