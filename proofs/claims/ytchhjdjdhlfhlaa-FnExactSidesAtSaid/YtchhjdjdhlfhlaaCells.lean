/- Walks: the code of a lawn and a cell, of a lawn alone; a cell's kind. -/
import Derived.Test.YtchhjdjdhlfhlaaSValid
namespace Go.Proofs.Ytchhjdjdhlfhlaa.L
set_option linter.unusedSimpArgs false
set_option linter.unusedVariables false
open Go.RowKit Go.Proofs.Ytchhjdjdhlfhlaa.B

set_option maxRecDepth 100000 in
set_option maxHeartbeats 1000000 in
theorem cellsCode1 (L : Lw) (x y : Int) (gl : Nat) (r : Bool) (hr : (!hasB L x y) = r) (w : World) (hl : w.heap[gl]? = some (.cells L.cells 30 (0, 0))) :
    Calls Try.prog 60 #[.agg #[.int .i8 x, .int .i8 y], .pointer (some ⟨gl, 0, none⟩)] w fun e w' => e = .returned (.bool r) ∧ Below w.heap.size w w' := by
  subst hr
  have hlt := blkLt hl
  go_enter Try.func60, Try.ntmps60
  go_wp2_with (first | (refine loadRow 4 rfl rfl rfl rfl Try.underlying30 rfl (blkA hl) (by rw [Lw.size]; exact size28) ?_) | (go_at_call 45; refine (has _ _ _ _).mono ?_; rintro e w1 ⟨rfl, hb⟩))
  go_ret
  exact ⟨rfl, belW (belA (Below.refl _ _)) hb⟩

/-- Where a cell stands that a lawn has not. -/
def idxB (b : Bool) : Int := if b then -1 else 0
set_option maxRecDepth 100000 in
set_option maxHeartbeats 1000000 in
theorem index1 (L : Lw) (x y : Int) (g gl c : Nat) (w : World) (hg : w.heap[g]? = some (.cells #[.int .i8 x, .int .i8 y] 44 (0, 0))) (hl : w.heap[gl]? = some (.cells L.cells 30 (0, 0))) :
    Calls Try.prog 62 #[.slice (some ⟨g, 0, none⟩) 1 c, .func (.func 60) #[] #[.pointer (some ⟨gl, 0, none⟩)]] w fun e w' => e = .returned (.int .i64 (idxB (hasB L x y))) ∧ Below w.heap.size w w' := by
  have c0 : w.cell? ⟨g, 0, none⟩ = some (.int .i8 x) := (blkC hg 0).trans rfl
  have c1 : w.cell? ⟨g, 1, none⟩ = some (.int .i8 y) := (blkC hg 1).trans rfl
  go_enter Try.func62, Try.ntmps62
  go_wp2
  refine wp_loop_rounds 2 ?_
  rw [rounds_succ]
  rcases twoways (hasB L x y) with b | b
  · go_wp2_with (first | (go_at_call 60; refine (cellsCode1 L x y gl true (by rw [b]; rfl) _ hl).mono ?_; rintro e w1 ⟨rfl, hb⟩))
    go_ret
    exact ⟨by rw [b]; rfl, hb⟩
  · go_wp2_with (first | (go_at_call 60; refine (cellsCode1 L x y gl false (by rw [b]; rfl) _ hl).mono ?_; rintro e w1 ⟨rfl, hb⟩))
    rw [rounds_succ]
    go_wp2
    go_ret
    exact ⟨by rw [b]; rfl, hb⟩

/-- The code of a lawn, and whether a cell of it is as told. -/
def codeB (L : Lw) (fine : Bool) : Int := if validB L then (if fine then 0 else 2) else 1
theorem contains1 (L : Lw) (x y : Int) (g gl c : Nat) (r : Bool) (hr : (!hasB L x y) = r) (w : World) (hg : w.heap[g]? = some (.cells #[.int .i8 x, .int .i8 y] 44 (0, 0))) (hl : w.heap[gl]? = some (.cells L.cells 30 (0, 0))) :
    Calls Try.prog 52 #[.slice (some ⟨g, 0, none⟩) 1 c, .func (.func 60) #[] #[.pointer (some ⟨gl, 0, none⟩)]] w fun e w' => e = .returned (.bool r) ∧ Below w.heap.size w w' := by
  subst hr
  have hI := index1 L x y g gl c w hg hl
  rcases twoways (hasB L x y) with b | b
  · rw [b, show idxB false = 0 from rfl] at hI
    go_enter Try.func52, Try.ntmps52
    go_wp2_with (first | (go_at_call 62; refine hI.mono ?_; rintro e w1 ⟨rfl, hb⟩))
    go_ret
    exact ⟨by rw [b]; rfl, hb⟩
  · rw [b, show idxB true = -1 from rfl] at hI
    go_enter Try.func52, Try.ntmps52
    go_wp2_with (first | (go_at_call 62; refine hI.mono ?_; rintro e w1 ⟨rfl, hb⟩))
    go_ret
    exact ⟨by rw [b]; rfl, hb⟩
set_option maxRecDepth 100000 in
set_option maxHeartbeats 1000000 in
theorem cells1 (L : Lw) (hL : Lw.Ok L) (x y : Int) (g c : Nat) (w : World) (hg : w.heap[g]? = some (.cells #[.int .i8 x, .int .i8 y] 44 (0, 0))) :
    Calls Try.prog 39 #[.agg L.cells, .slice (some ⟨g, 0, none⟩) 1 c] w fun e w' => e = .returned (.int .i64 (codeB L (hasB L x y))) ∧ Below w.heap.size w w' := by
  have hlt := blkLt hg
  have hv := valid L hL
  rcases twoways (validB L) with b | b
  · rw [b] at hv
    have HV := Lib.hid hv
    clear hv
    go_enter Try.func39, Try.ntmps39
    go_wp2_with (first | (refine loadRow 6 rfl rfl rfl rfl Try.underlying30 rfl (blkN rfl) (by rw [Lw.size]; exact size28) ?_) | (go_at_call 26; refine (HV.out _).mono ?_; rintro e w1 ⟨rfl, hb⟩))
    go_ret
    exact ⟨by rw [codeB, b]; rfl, belW (belA (Below.refl _ _)) hb⟩
  · rw [b] at hv
    have HV := Lib.hid hv
    clear hv
    rcases twoways (hasB L x y) with b2 | b2
    · go_enter Try.func39, Try.ntmps39
      go_wp2_with (first | (refine loadRow 6 rfl rfl rfl rfl Try.underlying30 rfl (blkN rfl) (by rw [Lw.size]; exact size28) ?_) | (go_at_call 26; refine (HV.out _).mono ?_; rintro e w1 ⟨rfl, hb⟩; have h1 : w1.heap[w.heap.size]? = some (.cells L.cells 30 (0, 0)) := blkB hb (blkN rfl) (by simp); have hg1 := blkB hb (blkA hg) (by simp; omega)) | (go_at_call 52; refine (contains1 L x y g w.heap.size c true (by rw [b2]; rfl) _ hg1 h1).mono ?_; rintro e w2 ⟨rfl, hb2⟩))
      go_ret
      exact ⟨by rw [codeB, b, b2]; rfl, belW (belW (belA (Below.refl _ _)) hb) hb2⟩
    · go_enter Try.func39, Try.ntmps39
      go_wp2_with (first | (refine loadRow 6 rfl rfl rfl rfl Try.underlying30 rfl (blkN rfl) (by rw [Lw.size]; exact size28) ?_) | (go_at_call 26; refine (HV.out _).mono ?_; rintro e w1 ⟨rfl, hb⟩; have h1 : w1.heap[w.heap.size]? = some (.cells L.cells 30 (0, 0)) := blkB hb (blkN rfl) (by simp); have hg1 := blkB hb (blkA hg) (by simp; omega)) | (go_at_call 52; refine (contains1 L x y g w.heap.size c false (by rw [b2]; rfl) _ hg1 h1).mono ?_; rintro e w2 ⟨rfl, hb2⟩))
      go_ret
      exact ⟨by rw [codeB, b, b2]; rfl, belW (belW (belA (Below.refl _ _)) hb) hb2⟩
end Go.Proofs.Ytchhjdjdhlfhlaa.L
