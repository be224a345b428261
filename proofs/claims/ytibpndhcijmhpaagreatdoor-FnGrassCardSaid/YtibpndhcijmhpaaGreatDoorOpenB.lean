/- How a list of bytes that came in is read. -/
import Derived.Test.YtibpndhcijmhpaaGreatDoorGrassD
import Derived.SizedLaws
import Derived.ChangeSlices
import Derived.ProofKit
namespace Go.Proofs.YtibpndhcijmhpaaGreatDoor.QG
set_option linter.unusedSimpArgs false
set_option linter.unusedVariables false
open Go.ChangeShapes Go.WideShapes Go.RowKit Go.Proofs.YtibpndhcijmhpaaGreatDoorW.PrintWords Go.Proofs.YtibpndhcijmhpaaGreatDoorW.PrintLast Go.Proofs.YtibpndhcijmhpaaGreatDoorW.PrintMore

theorem open_bytes {H : Type} {enc : TypeId × Value → H} {W : World} {base : Nat} {held : Bool} {a : Option Addr} {len cap : Nat} {d : DataW H} {ps : List MemPlace} {ts : List TypeId} {ds : List (DataW H)} {j : Nat}
    (hsz : (DataW.weightsEach Tryz.prog ts ds).all (· ≤ reachBytes) = true) (ht : ts[j]? = some 22) (hd : ds[j]? = some d)
    (h : DataW.Trod enc Tryz.prog W base (fun _ => true) held 22 (.slice a len cap) d ps) :
    ∃ l : List Int, len = l.length ∧ l.length ≤ cap ∧ l.length ≤ 140737488351232 ∧ Kd.C (Kd.int .u8) W a l.length l ∧ ∀ x ∈ l, (Lit.int .u8 x).wf = true := by
  obtain ⟨fuel, hf⟩ := h
  rcases open_ints Tryz.underlying22 Tryz.underlying5 (by kernel_rfl) hf with ⟨hcs, _⟩ | ⟨x, l, c, zs, hcs, _, hl, hm, hz, hx, hcell, hwz⟩
  · simp [Value.cells] at hcs
    obtain ⟨rfl, rfl, rfl⟩ := hcs
    exact ⟨[], rfl, Nat.le_refl _, by simp, ⟨rfl, by simp, fun h => by simp at h⟩, fun x hx => by simp at hx⟩
  · simp [Value.cells] at hcs
    obtain ⟨rfl, rfl, rfl⟩ := hcs
    simp at hz
    obtain ⟨hx, _⟩ := Prod.mk.inj hx
    subst hx
    have z := sized_slice hsz ht hd Tryz.underlying22
    rw [show Tryz.prog.bytesOf 5 = 1 by kernel_rfl] at z
    have hr : reachBytes = 140737488351232 := rfl
    rw [hr] at z
    have hlen : (lits (H := H) IntKind.u8 (zs.take len)).length + (lits (H := H) IntKind.u8 (zs.drop len)).length = cap := by
      simp [lits]
      omega
    rw [hlen] at z
    have hmx : maxLen = 9223372036854775807 := rfl
    refine ⟨zs.take len, by simp; omega, by simp; omega, by simp; omega, ⟨rfl, by simp; omega, fun _ => ⟨x, rfl, fun j p hj => ?_⟩⟩, fun y hy => hwz y (List.mem_of_mem_take hy)⟩
    have hjl := (List.getElem?_eq_some_iff.1 hj).1
    simp at hjl
    rw [List.getElem?_take, if_pos (by omega)] at hj
    have hc := hcell j (by omega)
    rw [List.getD_eq_getElem?_getD, hj] at hc
    refine ⟨[.int .u8 p], rfl, rfl, fun i u hu => ?_⟩
    match i, hu with
    | 0, hu => simp at hu; subst hu; simpa [Kd.int, Kd.scalar] using hc
    | i + 1, hu => simp at hu
theorem bytes_in {l : List Int} (h : ∀ x ∈ l, (Lit.int .u8 x).wf = true) : BytesIn l := fun i => by
  unfold rd
  rw [List.getD_eq_getElem?_getD]
  cases e : l[i.toNat]? with
  | none => simp
  | some x =>
    have hm := List.mem_of_getElem? e
    have h1 : IntKind.u8.min = 0 := rfl
    have h2 : IntKind.u8.max = 255 := rfl
    have := h x hm
    simp only [Lit.wf, Bool.and_eq_true, decide_eq_true_eq, h1, h2] at this
    simpa using this
end Go.Proofs.YtibpndhcijmhpaaGreatDoor.QG
