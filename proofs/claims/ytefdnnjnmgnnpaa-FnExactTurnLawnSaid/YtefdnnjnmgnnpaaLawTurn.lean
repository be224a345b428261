/- Walks: the laws TurnLawn and MirrorLawn. -/
import Derived.Test.YtefdnnjnmgnnpaaSTurn
import Derived.Test.YtefdnnjnmgnnpaaEq
namespace Go.Proofs.Ytefdnnjnmgnnpaa.L
set_option linter.unusedSimpArgs false
set_option linter.unusedVariables false
open Go.RowKit Go.Proofs.Ytefdnnjnmgnnpaa.B

theorem turnAny (L : Lw) (hL : Lw.Ok L) : ∃ (Z : Lw) (c : Int), (∀ w, Calls Try.prog 11 #[.agg L.cells] w fun e w' => e = .returned (.tuple #[.agg Z.cells, .int .i64 c]) ∧ Below w.heap.size w w') ∧ (∀ w, Calls Try.prog 10 #[.agg L.cells] w fun e w' => e = .returned (.tuple #[.agg Z.cells, .int .i64 c]) ∧ Below w.heap.size w w') := by
  rcases twoways (validB L) with hv | hv
  · exact ⟨_, _, fun w => turnNo L hL hv w, fun w => sturnNo L hL hv w⟩
  · obtain ⟨W, H, hw, hh, h1, h2, h3, h4⟩ := sides hv
    exact ⟨_, _, fun w => turnOk L hL hv W H hw hh h1 h2 h3 h4 w, fun w => sturnOk L hL hv W H hw hh h1 h2 h3 h4 w⟩

set_option maxRecDepth 100000 in
set_option maxHeartbeats 4000000 in
theorem lawTurn (L : Lw) (hL : Lw.Ok L) (w : World) :
    Calls Try.prog 4 #[.agg L.cells] w fun e w' => e = .returned (.bool true) ∧ Below w.heap.size w w' := by
  obtain ⟨hz, hz2⟩ := zero_of_info zeroLw
  have hz3 := Lw.ne ⟨0, 0, fun _ => 0⟩
  have hz4 := Lw.size ⟨0, 0, fun _ => 0⟩
  obtain ⟨Z, c, HI, HS⟩ := turnAny L hL
  have HI := Lib.hid HI
  have HS := Lib.hid HS
  go_enter Try.func4, Try.ntmps4
  go_wp2_with (refine loadRow 8 rfl rfl rfl rfl Try.underlying26 rfl (blkN rfl) (by rw [Lw.size]; kernel_rfl) ?_)
  refine (toLawn L _).mono ?_
  rintro e w1 ⟨rfl, hb⟩
  have hB1 := belW (belA (Below.refl w.heap.size w)) hb
  have h1 : w1.heap[w.heap.size]? = some (.cells L.cells 26 (0, 0)) := blkB hb (blkN rfl) (by simp)
  clear hb
  go_wp2_with fail
  refine (HS.out _).mono ?_
  rintro e w2 ⟨rfl, hb⟩
  have hB2 := belW hB1 hb
  have h2 := blkB hb h1 (blkLt h1)
  clear hb hB1 h1
  go_wp2_with (first | (refine storeRow rfl rfl rfl rfl rfl (blkN rfl) (by rw [Lw.size]; exact size28) (by simp only [Lw.size]) (Lw.one _) ?_; intro w3 j1 j2 j3 j4; have n2 := blkLt h2; have hB3 := belT (belA hB2 (o := .cells (Lw.cells ⟨0, 0, fun _ => 0⟩) 28)) j3 hB2.size; have h3 := (j2 _ (Nat.ne_of_lt n2)).trans (blkA h2)) | (refine loadRow 14 rfl rfl rfl rfl Try.underlying26 rfl h3 (by rw [Lw.size]; kernel_rfl) ?_))
  obtain ⟨g, hg⟩ : ∃ g, g = w2.heap.size := ⟨_, rfl⟩
  rw [← hg] at j1
  try rw [← hg]
  clear hg j2 j3 j4 h2 hB2 n2
  refine (toLawn L _).mono ?_
  rintro e w4 ⟨rfl, hb⟩
  have hB4 := belW hB3 hb
  have h4 := blkB hb j1 (blkLt j1)
  clear hb j1 h3 hB3
  go_wp2_with fail
  refine (HI.out _).mono ?_
  rintro e w5 ⟨rfl, hb⟩
  have hB5 := belW hB4 hb
  have h5 := blkB hb h4 (blkLt h4)
  clear hb h4 hB4
  go_wp2_with (first | (refine storeRow rfl rfl rfl rfl rfl (blkN rfl) (by rw [Lw.size]; exact size28) (by simp only [Lw.size]) (Lw.one _) ?_; intro w6 j1 j2 j3 j4; have n2 := blkLt h5; have hB6 := belT (belA hB5 (o := .cells (Lw.cells ⟨0, 0, fun _ => 0⟩) 28)) j3 hB5.size; have h6 := (j2 _ (Nat.ne_of_lt n2)).trans (blkA h5)) | (refine loadRow 19 rfl rfl rfl rfl Try.underlying28 rfl j1 (by rw [Lw.size]; exact size28) ?_) | (refine loadRow 20 rfl rfl rfl rfl Try.underlying28 rfl h6 (by rw [Lw.size]; exact size28) ?_) | (go_at_call 12; refine (eqLawn Z _).mono ?_; rintro e w7 ⟨rfl, hb7⟩))
  go_ret
  exact ⟨rfl, belW hB6 hb7⟩

theorem mirrorAny (L : Lw) (hL : Lw.Ok L) : ∃ (Z : Lw) (c : Int), (∀ w, Calls Try.prog 14 #[.agg L.cells] w fun e w' => e = .returned (.tuple #[.agg Z.cells, .int .i64 c]) ∧ Below w.heap.size w w') ∧ (∀ w, Calls Try.prog 13 #[.agg L.cells] w fun e w' => e = .returned (.tuple #[.agg Z.cells, .int .i64 c]) ∧ Below w.heap.size w w') := by
  rcases twoways (validB L) with hv | hv
  · exact ⟨_, _, fun w => mirrorNo L hL hv w, fun w => smirrorNo L hL hv w⟩
  · obtain ⟨W, H, hw, hh, h1, h2, h3, h4⟩ := sides hv
    exact ⟨_, _, fun w => mirrorOk L hL hv W H hw hh h1 h2 h3 h4 w, fun w => smirrorOk L hL hv W H hw hh h1 h2 h3 h4 w⟩

set_option maxRecDepth 100000 in
set_option maxHeartbeats 4000000 in
theorem lawMirror (L : Lw) (hL : Lw.Ok L) (w : World) :
    Calls Try.prog 5 #[.agg L.cells] w fun e w' => e = .returned (.bool true) ∧ Below w.heap.size w w' := by
  obtain ⟨hz, hz2⟩ := zero_of_info zeroLw
  have hz3 := Lw.ne ⟨0, 0, fun _ => 0⟩
  have hz4 := Lw.size ⟨0, 0, fun _ => 0⟩
  obtain ⟨Z, c, HI, HS⟩ := mirrorAny L hL
  have HI := Lib.hid HI
  have HS := Lib.hid HS
  go_enter Try.func5, Try.ntmps5
  go_wp2_with (refine loadRow 8 rfl rfl rfl rfl Try.underlying26 rfl (blkN rfl) (by rw [Lw.size]; kernel_rfl) ?_)
  refine (toLawn L _).mono ?_
  rintro e w1 ⟨rfl, hb⟩
  have hB1 := belW (belA (Below.refl w.heap.size w)) hb
  have h1 : w1.heap[w.heap.size]? = some (.cells L.cells 26 (0, 0)) := blkB hb (blkN rfl) (by simp)
  clear hb
  go_wp2_with fail
  refine (HS.out _).mono ?_
  rintro e w2 ⟨rfl, hb⟩
  have hB2 := belW hB1 hb
  have h2 := blkB hb h1 (blkLt h1)
  clear hb hB1 h1
  go_wp2_with (first | (refine storeRow rfl rfl rfl rfl rfl (blkN rfl) (by rw [Lw.size]; exact size28) (by simp only [Lw.size]) (Lw.one _) ?_; intro w3 j1 j2 j3 j4; have n2 := blkLt h2; have hB3 := belT (belA hB2 (o := .cells (Lw.cells ⟨0, 0, fun _ => 0⟩) 28)) j3 hB2.size; have h3 := (j2 _ (Nat.ne_of_lt n2)).trans (blkA h2)) | (refine loadRow 14 rfl rfl rfl rfl Try.underlying26 rfl h3 (by rw [Lw.size]; kernel_rfl) ?_))
  obtain ⟨g, hg⟩ : ∃ g, g = w2.heap.size := ⟨_, rfl⟩
  rw [← hg] at j1
  try rw [← hg]
  clear hg j2 j3 j4 h2 hB2 n2
  refine (toLawn L _).mono ?_
  rintro e w4 ⟨rfl, hb⟩
  have hB4 := belW hB3 hb
  have h4 := blkB hb j1 (blkLt j1)
  clear hb j1 h3 hB3
  go_wp2_with fail
  refine (HI.out _).mono ?_
  rintro e w5 ⟨rfl, hb⟩
  have hB5 := belW hB4 hb
  have h5 := blkB hb h4 (blkLt h4)
  clear hb h4 hB4
  go_wp2_with (first | (refine storeRow rfl rfl rfl rfl rfl (blkN rfl) (by rw [Lw.size]; exact size28) (by simp only [Lw.size]) (Lw.one _) ?_; intro w6 j1 j2 j3 j4; have n2 := blkLt h5; have hB6 := belT (belA hB5 (o := .cells (Lw.cells ⟨0, 0, fun _ => 0⟩) 28)) j3 hB5.size; have h6 := (j2 _ (Nat.ne_of_lt n2)).trans (blkA h5)) | (refine loadRow 19 rfl rfl rfl rfl Try.underlying28 rfl j1 (by rw [Lw.size]; exact size28) ?_) | (refine loadRow 20 rfl rfl rfl rfl Try.underlying28 rfl h6 (by rw [Lw.size]; exact size28) ?_) | (go_at_call 12; refine (eqLawn Z _).mono ?_; rintro e w7 ⟨rfl, hb7⟩))
  go_ret
  exact ⟨rfl, belW hB6 hb7⟩
end Go.Proofs.Ytefdnnjnmgnnpaa.L
