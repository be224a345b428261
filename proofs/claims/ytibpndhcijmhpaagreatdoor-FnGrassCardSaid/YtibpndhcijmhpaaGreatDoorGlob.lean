/- What the library's variables hold, and that it stays. -/
import Derived.WalkKit
namespace Go.Proofs.YtibpndhcijmhpaaGreatDoor.B
set_option linter.unusedSimpArgs false
set_option linter.unusedVariables false
open Go.RowKit

/-- The library's variables as the call finds them. -/
def GL (w : World) : Prop := (∃ m, w.cell? ⟨0, 0, none⟩ = some (.int .i64 m)) ∧ (∃ te pe, w.cell? ⟨1, 0, none⟩ = some (.iface te pe)) ∧ ∃ te pe, w.cell? ⟨2, 0, none⟩ = some (.iface te pe)
theorem gl_any {w W : World} (h : GL w) (hb : Below w.heap.size w W) : GL W := by
  obtain ⟨⟨m, h1⟩, ⟨te, pe, h2⟩, tr, pr, h3⟩ := h
  exact ⟨⟨m, (hb.cell (World.block_lt_of_cell? w _ h1)).trans h1⟩, ⟨te, pe, (hb.cell (World.block_lt_of_cell? w _ h2)).trans h2⟩, tr, pr, (hb.cell (World.block_lt_of_cell? w _ h3)).trans h3⟩
end Go.Proofs.YtibpndhcijmhpaaGreatDoor.B
