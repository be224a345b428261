/- Walks: the law CornersOf. -/
import Derived.Test.YtchhjdjdhlfhlaaCorners2
namespace Go.Proofs.Ytchhjdjdhlfhlaa.L
set_option linter.unusedSimpArgs false
set_option linter.unusedVariables false
open Go.RowKit Go.Proofs.Ytchhjdjdhlfhlaa.B

set_option maxRecDepth 100000 in
set_option maxHeartbeats 4000000 in
theorem sCornersNo (L : Lw) (hL : Lw.Ok L) (hv : validB L = false) (w : World) :
    Calls Try.prog 12 #[.agg L.cells] w fun e w' => e = .returned (.tuple #[.int .i64 0, .int .i64 1]) ∧ Below w.heap.size w w' := by
  have HC := fun (g : Nat) (t : TypeId) (w : World) hg => sOk L hL g t w hg
  rw [hv] at HC
  have HC := Lib.hid HC
  clear hv hL
  go_enter Try.func12, Try.ntmps12
  go_wp2_with (first | (go_at_call 27; refine (HC.out w.heap.size _ _ (blkN rfl)).mono ?_; rintro e w1 ⟨rfl, hb⟩; have hB1 := belW (belA (Below.refl w.heap.size w)) hb))
  go_ret2
  exact ⟨rfl, hB1⟩
set_option maxRecDepth 100000 in
set_option maxHeartbeats 4000000 in
theorem cornersNo (L : Lw) (hL : Lw.Ok L) (hv : validB L = false) (w : World) :
    Calls Try.prog 13 #[.agg L.cells] w fun e w' => e = .returned (.tuple #[.int .i64 0, .int .i64 1]) ∧ Below w.heap.size w w' := by
  have HC := fun (w : World) => valid L hL w
  rw [hv] at HC
  have HC := Lib.hid HC
  clear hv hL
  go_enter Try.func13, Try.ntmps13
  go_wp2_with (first | (refine loadRow 12 rfl rfl rfl rfl Try.underlying30 rfl (blkN rfl) (by rw [Lw.size]; exact size28) ?_) | (go_at_call 26; refine (HC.out _).mono ?_; rintro e w1 ⟨rfl, hb⟩; have hB1 := belW (belA (Below.refl w.heap.size w)) hb))
  go_ret2
  exact ⟨rfl, hB1⟩
theorem cornersAny (L : Lw) (hL : Lw.Ok L) : ∃ n c : Int, (∀ w, Calls Try.prog 13 #[.agg L.cells] w fun e w' => e = .returned (.tuple #[.int .i64 n, .int .i64 c]) ∧ Below w.heap.size w w') ∧ (∀ w, Calls Try.prog 12 #[.agg L.cells] w fun e w' => e = .returned (.tuple #[.int .i64 n, .int .i64 c]) ∧ Below w.heap.size w w') := by
  rcases twoways (validB L) with hv | hv
  · exact ⟨_, _, fun w => cornersNo L hL hv w, fun w => sCornersNo L hL hv w⟩
  · obtain ⟨W, H, hw, hh, h1, h2, h3, h4⟩ := sides hv
    exact ⟨_, _, fun w => cornersOk L hL hv W H hw hh h1 h2 h3 h4 w, fun w => sCornersOk L hL hv W H hw hh h1 h2 h3 h4 w⟩

set_option maxRecDepth 100000 in
set_option maxHeartbeats 4000000 in
theorem lawCorners (L : Lw) (hL : Lw.Ok L) (w : World) :
    Calls Try.prog 4 #[.agg L.cells] w fun e w' => e = .returned (.bool true) ∧ Below w.heap.size w w' := by
  obtain ⟨n, c, HI, HS⟩ := cornersAny L hL
  have HI := Lib.hid HI
  have HS := Lib.hid HS
  go_enter Try.func4, Try.ntmps4
  go_wp2_with (refine loadRow 8 rfl rfl rfl rfl Try.underlying26 rfl (blkN rfl) (by rw [Lw.size]; kernel_rfl) ?_)
  refine (toLawn L _).mono ?_
  rintro e w1 ⟨rfl, hb⟩
  have hB1 := belW (belA (Below.refl w.heap.size w)) hb
  have h1 : w1.heap[w.heap.size]? = some (.cells L.cells 26 (0, 0)) := blkB hb (blkN rfl) (by simp)
  clear hb
  go_wp2_with fail
  refine (HS.out _).mono ?_
  rintro e w2 ⟨rfl, hb⟩
  have hB2 := belW hB1 hb
  have h2 := blkB hb h1 (blkLt h1)
  clear hb hB1 h1
  go_wp2_with (refine loadRow 14 rfl rfl rfl rfl Try.underlying26 rfl h2 (by rw [Lw.size]; kernel_rfl) ?_)
  refine (toLawn L _).mono ?_
  rintro e w4 ⟨rfl, hb⟩
  have hB4 := belW hB2 hb
  clear hb hB2
  go_wp2_with fail
  refine (HI.out _).mono ?_
  rintro e w5 ⟨rfl, hb⟩
  have hB5 := belW hB4 hb
  clear hb hB4
  go_wp2
  go_ret
  exact ⟨rfl, hB5⟩
end Go.Proofs.Ytchhjdjdhlfhlaa.L
