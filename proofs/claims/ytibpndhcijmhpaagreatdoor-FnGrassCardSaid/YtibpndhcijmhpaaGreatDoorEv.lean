/- Words: what a function with rounds comes to, from some number of rounds on. No program in sight. -/
import Derived.RowKit
namespace Go.Proofs.YtibpndhcijmhpaaGreatDoor.B
set_option linter.unusedSimpArgs false
set_option linter.unusedVariables false
open Go.RowKit

/-- From some number of rounds on, g says r. -/
def Evn {α : Type} (g : Nat → Option α) (r : α) : Prop := ∃ K, ∀ k, K ≤ k → g k = some r
section
variable {α β : Type}
theorem Evn.now (r : α) : Evn (fun _ => some r) r := ⟨0, fun _ _ => rfl⟩
theorem Evn.of {a : Option α} {r : α} (h : a = some r) : Evn (fun _ => a) r := ⟨0, fun _ _ => h⟩
theorem Evn.bind {g : Nat → Option α} {f : Nat → α → Option β} {a : α} {r : β} (h : Evn g a) (h2 : Evn (fun k => f k a) r) : Evn (fun k => (g k).bind (f k)) r := by
  obtain ⟨K, hK⟩ := h
  obtain ⟨M, hM⟩ := h2
  refine ⟨max K M, fun k hk => ?_⟩
  have h1 := hK k (by omega)
  have h2 := hM k (by omega)
  show (g k).bind (f k) = some r
  rw [h1, Option.bind_some]
  exact h2
theorem Evn.succ {g : Nat → Option α} {r : α} (h : Evn (fun k => g (k + 1)) r) : Evn g r := by
  obtain ⟨K, hK⟩ := h
  refine ⟨K + 1, fun k hk => ?_⟩
  obtain ⟨m, rfl⟩ : ∃ m, k = m + 1 := ⟨k - 1, by omega⟩
  exact hK m (by omega)
theorem Evn.pos {c : Prop} [Decidable c] {a b : Nat → Option α} {r : α} (hc : c) (h : Evn a r) : Evn (fun k => if c then a k else b k) r := by
  simpa only [if_pos hc] using h
theorem Evn.neg {c : Prop} [Decidable c] {a b : Nat → Option α} {r : α} (hc : ¬ c) (h : Evn b r) : Evn (fun k => if c then a k else b k) r := by
  simpa only [if_neg hc] using h
theorem Evn.ex {g : Nat → Option α} {r : α} (h : Evn g r) : ∃ k, g k = some r := by
  obtain ⟨K, hK⟩ := h
  exact ⟨K, hK K (Nat.le_refl _)⟩
theorem Evn.one {g : Nat → Option α} {r q : α} (h : Evn g r) (h2 : Evn g q) : r = q := by
  obtain ⟨K, hK⟩ := h
  obtain ⟨M, hM⟩ := h2
  have a := hK (max K M) (by omega)
  have b := hM (max K M) (by omega)
  rw [a] at b
  exact Option.some.inj b
end
theorem wrap64_in {x : Int} (h0 : -9223372036854775808 ≤ x) (h1 : x ≤ 9223372036854775807) : wrap64 x = x := by
  unfold wrap64
  omega
end Go.Proofs.YtibpndhcijmhpaaGreatDoor.B
