/- How a list of days that came in is read. -/
import Derived.Test.YtkebohpfneiimaaDoorQTx
import Derived.Deep.SlicePairs
import Derived.SizedLaws
import Derived.ChangeArms
import Derived.ProofKit
namespace Go.Proofs.YtkebohpfneiimaaDoor.QT
set_option linter.unusedSimpArgs false
set_option linter.unusedVariables false
open Go.ChangeShapes Go.WideShapes Go.Deep Go.RowKit Go.Proofs.YtkebohpfneiimaaDoorW.PrintWords Go.Proofs.YtkebohpfneiimaaDoorW.PrintLast Go.Proofs.YtkebohpfneiimaaDoorW.PrintMore

theorem wf8 {x : Int} (h : (Lit.int .i8 x).wf = true) : -128 ≤ x ∧ x ≤ 127 := by
  have h1 : IntKind.i8.min = -128 := rfl
  have h2 : IntKind.i8.max = 127 := rfl
  simp only [Lit.wf, Bool.and_eq_true, decide_eq_true_eq, h1, h2] at h; exact h

theorem open_days {H : Type} {enc : TypeId × Value → H} {W : World} {base : Nat} {held : Bool} {a : Option Addr} {len cap : Nat} {d : DataW H} {ps : List MemPlace} {ts : List TypeId} {ds : List (DataW H)} {j : Nat}
    (hsz : (DataW.weightsEach Tryd.prog ts ds).all (· ≤ reachBytes) = true) (ht : ts[j]? = some 22) (hd : ds[j]? = some d)
    (h : DataW.Trod enc Tryd.prog W base (fun _ => true) held 22 (.slice a len cap) d ps) :
    ∃ l : List (S38), len = l.length ∧ l.length ≤ cap ∧ l.length ≤ 70368744175616 ∧ Kd.C k38 W a l.length l ∧ ∀ x ∈ l, (-128 ≤ x.f0 ∧ x.f0 ≤ 127) ∧ -128 ≤ x.f1 ∧ x.f1 ≤ 127 := by
  obtain ⟨fuel, hf⟩ := h
  rcases open_slice_pairs Tryd.underlying22 Tryd.underlying38 (by kernel_rfl) rfl rfl (by kernel_rfl) (by kernel_rfl) hf with ⟨hcs, _⟩ | ⟨x, l, c, m, n, V0, V1, D0, D1, P0, P1, hcs, _, hl, hm, hmm, hx, hc⟩
  · simp [Value.cells] at hcs
    obtain ⟨rfl, rfl, rfl⟩ := hcs
    exact ⟨[], rfl, Nat.le_refl _, by simp, ⟨rfl, by simp, fun h => by simp at h⟩, fun x hx => by simp at hx⟩
  · simp [Value.cells] at hcs
    obtain ⟨rfl, rfl, rfl⟩ := hcs
    simp at hmm
    subst hmm
    obtain ⟨hx, _⟩ := Prod.mk.inj hx
    subst hx
    have z := sized_slice hsz ht hd Tryd.underlying22
    rw [show Tryd.prog.bytesOf 38 = 2 by kernel_rfl] at z
    simp only [List.length_map, List.length_range] at z
    have hr : reachBytes = 140737488351232 := rfl
    rw [hr] at z
    have each : ∀ i, i < m → ∃ q : S38, W.cell? (x.add (i * 2)) = some (.int .i8 q.f0) ∧ W.cell? (x.add (i * 2 + 1)) = some (.int .i8 q.f1) ∧ (-128 ≤ q.f0 ∧ q.f0 ≤ 127) ∧ -128 ≤ q.f1 ∧ q.f1 ≤ 127 := by
      intro i hi
      obtain ⟨h0, h1, h2, h3⟩ := hc i hi
      obtain ⟨y0, e0, _, w0⟩ := DataW.trod_int Tryd.underlying34 h2
      obtain ⟨y1, e1, _, w1⟩ := DataW.trod_int Tryd.underlying34 h3
      simp only [List.cons.injEq, and_true] at e0 e1
      rw [e0] at h0
      rw [e1] at h1
      exact ⟨⟨y0, y1⟩, h0, h1, wf8 w0, wf8 w1⟩
    haveI : Inhabited (S38) := ⟨z38⟩
    obtain ⟨q, hq⟩ := choose_lt each
    refine ⟨(List.range len).map q, by simp, by simpa using hl, by simp; omega, ⟨rfl, by simp; omega, fun _ => ⟨x, rfl, fun j p hj => ?_⟩⟩, fun y hy => ?_⟩
    · simp only [List.getElem?_map, Option.map_eq_some_iff] at hj
      obtain ⟨j', hj', rfl⟩ := hj
      have hlt := (List.getElem?_eq_some_iff.1 hj').1
      simp at hlt
      have ej : j = j' := by simpa [hlt] using hj'
      subst ej
      refine ⟨_, rfl, k38_mk W (q j), fun i u hu => ?_⟩
      obtain ⟨c0, c1, _⟩ := hq j (by omega)
      match i, hu with
      | 0, hu => simp at hu; subst hu; exact c0
      | 1, hu => simp at hu; subst hu; exact c1
      | i + 2, hu => simp at hu
    · simp only [List.mem_map, List.mem_range] at hy
      obtain ⟨j, hj, rfl⟩ := hy
      exact (hq j (by omega)).2.2
end Go.Proofs.YtkebohpfneiimaaDoor.QT
