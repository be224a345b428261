/- Walks: whether a cell is of a kind; grass. -/
import Derived.Test.YtchhjdjdhlfhlaaKind
namespace Go.Proofs.Ytchhjdjdhlfhlaa.L
set_option linter.unusedSimpArgs false
set_option linter.unusedVariables false
open Go.RowKit Go.Proofs.Ytchhjdjdhlfhlaa.B

/-- Has a lawn this cell, and is it of this kind? -/
def isB (L : Lw) (k x y : Int) : Bool := hasB L x y && (L.c (y.toNat * 10 + x.toNat) == k)

set_option maxRecDepth 100000 in
set_option maxHeartbeats 1000000 in
theorem is (L : Lw) (hL : Lw.Ok L) (k x y : Int) (hin : hasB L x y = true → x < 10 ∧ y < 10) (w : World) :
    Calls Try.prog 43 #[.agg L.cells, .agg #[.int .i8 x, .int .i8 y], .int .i64 k] w fun e w' => e = .returned (.bool (isB L k x y)) ∧ Below w.heap.size w w' := by
  have HH := fun (w : World) => has L x y w
  rcases twoways (hasB L x y) with b | b
  · rw [b] at HH
    have HH := Lib.hid HH
    go_enter Try.func43, Try.ntmps43
    go_wp2_with (first | (refine loadRow 7 rfl rfl rfl rfl Try.underlying30 rfl (blkA (blkN rfl)) (by rw [Lw.size]; exact size28) ?_) | (go_at_call 45; refine (HH.out _).mono ?_; rintro e w1 ⟨rfl, hb⟩))
    go_ret
    exact ⟨by unfold isB; rw [b]; rfl, belW (belA (belA (Below.refl _ _))) hb⟩
  · rw [b] at HH
    have HH := Lib.hid HH
    obtain ⟨i, j, rfl, rfl, hi, hj⟩ : ∃ i j : Nat, x = i ∧ y = j ∧ i < 10 ∧ j < 10 := by
      have h2 := hin b
      simp only [hasB, Bool.and_eq_true, decide_eq_true_eq] at b
      exact ⟨x.toNat, y.toNat, by omega, by omega, by omega, by omega⟩
    have hI : isB L k i j = (L.c (j * 10 + i) == k) := by unfold isB; rw [b]; rfl
    rw [hI]
    have hK := kind L hL i j hi hj
    obtain ⟨v, hv⟩ : ∃ v, v = L.c (j * 10 + i) := ⟨_, rfl⟩
    rw [← hv] at hK ⊢
    have HK := Lib.hid hK
    clear hK hv hI b hin hL
    go_enter Try.func43, Try.ntmps43
    go_wp2_with (first | (refine loadRow 7 rfl rfl rfl rfl Try.underlying30 rfl (blkA (blkN rfl)) (by rw [Lw.size]; exact size28) ?_) | (refine loadRowG 11 rfl rfl rfl rfl Try.underlying30 rfl h1 (by rw [Lw.size]; exact size28) ?_) | (go_at_call 45; refine (HH.out _).mono ?_; rintro e w1 ⟨rfl, hb⟩; have h1 : w1.heap[w.heap.size]? = some (.cells L.cells 30 (0, 0)) := blkB hb (blkA (blkN rfl)) (by first | (simp; done) | (simp; omega)); have h2 : w1.heap[w.heap.size + 1]? = some (.cells #[.int .i8 i, .int .i8 j] 44 (0, 0)) := blkB hb (blkN (by simp)) (by simp); have c0 : w1.cell? ⟨w.heap.size + 1, 0, none⟩ = some (.int .i8 i) := (blkC h2 0).trans rfl; have c1 : w1.cell? ⟨w.heap.size + 1, 1, none⟩ = some (.int .i8 j) := (blkC h2 1).trans rfl) | (go_at_call 55; refine (HK.out _).mono ?_; rintro e w2 ⟨rfl, hb2⟩))
    go_ret
    exact ⟨by simp, belW (belW (belA (belA (Below.refl _ _))) hb) hb2⟩

set_option maxRecDepth 100000 in
set_option maxHeartbeats 1000000 in
theorem grass (L : Lw) (hL : Lw.Ok L) (x y : Int) (hin : hasB L x y = true → x < 10 ∧ y < 10) (w : World) :
    Calls Try.prog 25 #[.agg L.cells, .agg #[.int .i8 x, .int .i8 y]] w fun e w' => e = .returned (.bool (isB L 0 x y)) ∧ Below w.heap.size w w' := by
  have HI := Lib.hid (fun (w : World) => is L hL 0 x y hin w)
  clear hin hL
  go_enter Try.func25, Try.ntmps25
  go_wp2_with (first | (refine loadRow 5 rfl rfl rfl rfl Try.underlying30 rfl (blkA (blkN rfl)) (by rw [Lw.size]; exact size28) ?_) | (go_at_call 43; refine (HI.out _).mono ?_; rintro e w1 ⟨rfl, hb⟩))
  go_ret
  exact ⟨rfl, belW (belA (belA (Below.refl _ _))) hb⟩

set_option maxRecDepth 100000 in
set_option maxHeartbeats 1000000 in
theorem sGrass (L : Lw) (hL : Lw.Ok L) (x y : Int) (hin : hasB L x y = true → x < 10 ∧ y < 10) (hx0 : -128 ≤ x) (hx1 : x ≤ 127) (hy0 : -128 ≤ y) (hy1 : y ≤ 127) (g : Nat) (t : TypeId) (w : World) (hg : w.heap[g]? = some (.cells L.cells t (0, 0))) :
    Calls Try.prog 28 #[.pointer (some ⟨g, 0, none⟩), .agg #[.int .i8 x, .int .i8 y]] w fun e w' => e = .returned (.bool (isB L 0 x y)) ∧ Below w.heap.size w w' := by
  have hlt := blkLt hg
  have HH := fun (w : World) hg => sIs L hL x y g t hx0 hx1 hy0 hy1 w hg
  rcases twoways (hasB L x y) with b | b
  · rw [b] at HH
    have HH := Lib.hid HH
    go_enter Try.func28, Try.ntmps28
    go_wp2_with (first | (go_at_call 48; refine (HH.out _ (blkA hg)).mono ?_; rintro e w1 ⟨rfl, hb⟩))
    go_ret
    exact ⟨by unfold isB; rw [b]; rfl, belW (belA (Below.refl _ _)) hb⟩
  · rw [b] at HH
    have HH := Lib.hid HH
    obtain ⟨i, j, rfl, rfl, hi, hj⟩ : ∃ i j : Nat, x = i ∧ y = j ∧ i < 10 ∧ j < 10 := by
      have h2 := hin b
      simp only [hasB, Bool.and_eq_true, decide_eq_true_eq] at b
      exact ⟨x.toNat, y.toNat, by omega, by omega, by omega, by omega⟩
    have hI : isB L 0 i j = (L.c (j * 10 + i) == 0) := by unfold isB; rw [b]; rfl
    rw [hI]
    have hK := sAt L hL i j hi hj g t
    obtain ⟨v, hv⟩ : ∃ v, v = L.c (j * 10 + i) := ⟨_, rfl⟩
    rw [← hv] at hK ⊢
    have HK := Lib.hid hK
    clear hK hv hI b hin hL hx0 hx1 hy0 hy1
    go_enter Try.func28, Try.ntmps28
    go_wp2_with (first | (go_at_call 48; refine (HH.out _ (blkA hg)).mono ?_; rintro e w1 ⟨rfl, hb⟩; have h1 : w1.heap[g]? = some (.cells L.cells t (0, 0)) := blkB hb (blkA hg) (by simp; omega); have h2 : w1.heap[w.heap.size]? = some (.cells #[.int .i8 i, .int .i8 j] 44 (0, 0)) := blkB hb (blkN rfl) (by simp); have c0 : w1.cell? ⟨w.heap.size, 0, none⟩ = some (.int .i8 i) := (blkC h2 0).trans rfl; have c1 : w1.cell? ⟨w.heap.size, 1, none⟩ = some (.int .i8 j) := (blkC h2 1).trans rfl) | (go_at_call 49; refine (HK.out _ h1).mono ?_; rintro e w2 ⟨rfl, hb2⟩))
    go_ret
    exact ⟨by simp, belW (belW (belA (Below.refl _ _)) hb) hb2⟩
end Go.Proofs.Ytchhjdjdhlfhlaa.L
