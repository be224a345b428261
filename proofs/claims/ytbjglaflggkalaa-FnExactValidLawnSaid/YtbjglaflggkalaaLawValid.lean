/- Walks: the law on valid lawns. -/
import Derived.Test.YtbjglaflggkalaaSValid
namespace Go.Proofs.Ytbjglaflggkalaa.L
set_option linter.unusedSimpArgs false
set_option linter.unusedVariables false
open Go.RowKit Go.Proofs.Ytbjglaflggkalaa.B

set_option maxRecDepth 100000 in
set_option maxHeartbeats 1000000 in
theorem sValid (L : Lw) (hL : Lw.Ok L) (w : World) :
    Calls Try.prog 10 #[.agg L.cells] w fun e w' => e = .returned (.bool (validB L)) ∧ Below w.heap.size w w' := by
  go_enter Try.func10, Try.ntmps10
  go_wp2_with (first | (go_at_call 21; refine (sOk L hL w.heap.size _ _ (blkN rfl)).mono ?_; rintro e w1 ⟨rfl, hb⟩))
  go_ret
  exact ⟨rfl, belW (belA (Below.refl _ _)) hb⟩

set_option maxRecDepth 100000 in
set_option maxHeartbeats 1000000 in
theorem lawValid (L : Lw) (hL : Lw.Ok L) (w : World) :
    Calls Try.prog 4 #[.agg L.cells] w fun e w' => e = .returned (.bool true) ∧ Below w.heap.size w w' := by
  go_enter Try.func4, Try.ntmps4
  go_wp2_with (first | (refine loadRow 5 rfl rfl rfl rfl Try.underlying31 rfl (blkN rfl) (by rw [Lw.size]; kernel_rfl) ?_) | (refine loadRow 8 rfl rfl rfl rfl Try.underlying31 rfl h2 (by rw [Lw.size]; kernel_rfl) ?_) | (go_at_call 11; refine (toLawn _ _).mono ?_; rintro e w1 ⟨rfl, hb⟩; first | (have hB := belW (belA (Below.refl w.heap.size w)) hb; have h1 : w1.heap[w.heap.size]? = some (.cells L.cells 31 (0, 0)) := blkB hb (blkN rfl) (by simp)) | (have hB3 := belW hB2 hb)) | (go_at_call 10; refine (sValid _ hL _).mono ?_; rintro e w1 ⟨rfl, hb⟩; have hB2 := belW hB hb; have h2 := blkB hb h1 (blkLt h1)) | (go_at_call 12; refine (valid _ hL _).mono ?_; rintro e w1 ⟨rfl, hb⟩; have hB4 := belW hB3 hb))
  go_ret
  exact ⟨rfl, hB4⟩
end Go.Proofs.Ytbjglaflggkalaa.L
