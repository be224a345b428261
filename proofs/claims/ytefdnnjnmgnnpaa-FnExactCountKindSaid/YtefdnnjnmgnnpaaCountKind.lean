/- Walks: how many cells of a kind there are, and the law. -/
import Derived.Test.YtefdnnjnmgnnpaaDelete
import Derived.Test.YtefdnnjnmgnnpaaSCells
namespace Go.Proofs.Ytefdnnjnmgnnpaa.L
set_option linter.unusedSimpArgs false
set_option linter.unusedVariables false
open Go.RowKit Go.Proofs.Ytefdnnjnmgnnpaa.B

set_option maxHeartbeats 1000000 in
theorem withinK (n : Int) (r : Bool) (hr : inB n 0 3 = r) (w : World) : Calls Try.prog 35 #[.int .i64 n, .int .i64 0, .int .i64 3] w fun e w' => e = .returned (.bool r) ∧ w = w' := by
  subst hr
  rcases twoways (decide (0 ≤ n)) with b1 | b1
  · go_enter Try.func35, Try.ntmps35
    go_wp2
    go_ret
    exact ⟨by simp [inB, b1], rfl⟩
  · go_enter Try.func35, Try.ntmps35
    go_wp2
    go_ret
    exact ⟨by simp [inB, b1], rfl⟩
set_option maxHeartbeats 1000000 in
theorem sKindK (n : Int) (r : Bool) (hr : inB n 0 3 = r) (w : World) : Calls Try.prog 29 #[.int .i64 n] w fun e w' => e = .returned (.bool r) ∧ w = w' := by
  go_enter Try.func29, Try.ntmps29
  go_wp2_with (first | (go_at_call 40; refine (sIn _ _ _ _).mono ?_; rintro e w2 ⟨rfl, rfl⟩))
  go_ret
  exact ⟨by rw [← hr]; rfl, rfl⟩
theorem codeB_good {L : Lw} {f : Bool} (h : codeB L f = 0) : validB L = true ∧ f = true := by
  unfold codeB at h
  cases hv : validB L <;> cases f <;> simp_all
/-- How many, and the code. -/
def cntN (L : Lw) (k : Int) : Nat := if validB L && inB k 0 3 then (keepL (ofB L L.wide.toNat k) (L.wide.toNat * L.high.toNat)).length else 0
def cntC (L : Lw) (k : Int) : Int := codeB L (inB k 0 3)

set_option maxRecDepth 100000 in
set_option maxHeartbeats 2000000 in
theorem cellsOf (L : Lw) (hL : Lw.Ok L) (k : Int) (w : World) :
    Calls Try.prog 31 #[.agg L.cells, .int .i64 k] w fun e w' => (∃ a cap, e = .returned (.tuple #[.slice a (cntN L k) cap, .int .i64 (cntC L k)])) ∧ Below w.heap.size w w' := by
  have HC := fun (w : World) => cells0 L hL w
  rcases twoways (validB L) with hv | hv
  · have e1 : cntN L k = 0 := by simp [cntN, hv]
    have e2 : cntC L k = 1 := by simp [cntC, codeB, hv]
    rw [show codeB L true = 1 by simp [codeB, hv]] at HC
    rw [e1, e2]
    have HC := Lib.hid HC
    clear e1 e2 hL hv
    go_enter Try.func31, Try.ntmps31
    go_wp2_with (first | (refine loadRow 7 rfl rfl rfl rfl Try.underlying28 rfl (blkA (blkN rfl)) (by rw [Lw.size]; exact size28) ?_) | (go_at_call 24; refine (HC.out _).mono ?_; rintro e w1 ⟨rfl, hb⟩; have hB1 := belW (belA (belA (Below.refl w.heap.size w))) hb))
    go_ret2
    exact ⟨⟨none, 0, rfl⟩, hB1⟩
  · rw [show codeB L true = 0 by simp [codeB, hv]] at HC
    have HC := Lib.hid HC
    rcases twoways (inB k 0 3) with hk | hk
    · have e1 : cntN L k = 0 := by simp [cntN, hk]
      have e2 : cntC L k = 2 := by simp [cntC, codeB, hv, hk]
      rw [e1, e2]
      have HK := Lib.hid hk
      clear e1 e2 hL hv hk
      go_enter Try.func31, Try.ntmps31
      go_wp2_with (first | (refine loadRow 7 rfl rfl rfl rfl Try.underlying28 rfl (blkA (blkN rfl)) (by rw [Lw.size]; exact size28) ?_) | (go_at_call 24; refine (HC.out _).mono ?_; rintro e w1 ⟨rfl, hb⟩; have hB1 := belW (belA (belA (Below.refl w.heap.size w))) hb; have h3 := pairRow (blkB hb (blkN (by simp)) (show w.heap.size + 1 < _ by simp)) (o := 0) rfl) | (go_at_call 35; refine (withinK k false HK.out _).mono ?_; rintro e w2 ⟨rfl, rfl⟩))
      go_ret2
      exact ⟨⟨none, 0, rfl⟩, hB1⟩
    · obtain ⟨W, H, hw, hh, h1, h2, h3, h4⟩ := sides hv
      have e1 : cntN L k = (keepL (ofB L W k) (W * H)).length := by unfold cntN; rw [hv, hk, hw, hh]; rfl
      have e2 : cntC L k = 0 := by simp [cntC, codeB, hv, hk]
      rw [e1, e2]
      have HK := Lib.hid hk
      have HT := Lib.hid (fun (gl gk : Nat) (w : World) a b => those L hL W H hw hh h1 h2 h3 h4 k gl gk w a b)
      clear e1 e2 hL hv hk hw hh
      go_enter Try.func31, Try.ntmps31
      go_wp2_with (first | (refine loadRow 7 rfl rfl rfl rfl Try.underlying28 rfl (blkA (blkN rfl)) (by rw [Lw.size]; exact size28) ?_) | (refine loadRow 19 rfl rfl rfl rfl Try.underlying28 rfl k1 (by rw [Lw.size]; exact size28) ?_) | (go_at_call 24; refine (HC.out _).mono ?_; rintro e w1 ⟨rfl, hb⟩; have hB1 := belW (belA (belA (Below.refl w.heap.size w))) hb; have k1 : w1.heap[w.heap.size]? = some (.cells L.cells 28 (0, 0)) := blkB hb (blkA (blkN rfl)) (by first | (simp; done) | (simp; omega)); have k2 : w1.heap[w.heap.size + 1]? = some (.cells #[.int .i64 k] 2 (0, 0)) := blkB hb (blkN (by simp)) (by simp); have h3 := pairRow k2 (o := 0) rfl) | (go_at_call 35; refine (withinK k true HK.out _).mono ?_; rintro e w2 ⟨rfl, rfl⟩) | (go_at_call 43; refine (HT.out w.heap.size (w.heap.size + 1) _ k1 k2).mono ?_; rintro e w6 ⟨⟨g, cap, rfl⟩, hb6⟩))
      go_ret2
      exact ⟨⟨_, _, rfl⟩, belW hB1 hb6⟩

set_option maxRecDepth 100000 in
set_option maxHeartbeats 2000000 in
theorem countKind (L : Lw) (hL : Lw.Ok L) (k : Int) (w : World) :
    Calls Try.prog 16 #[.agg L.cells, .int .i64 k] w fun e w' => e = .returned (.tuple #[.int .i64 (cntN L k : Nat), .int .i64 (cntC L k)]) ∧ Below w.heap.size w w' := by
  have HC := Lib.hid (fun (w : World) => cellsOf L hL k w)
  clear hL
  go_enter Try.func16, Try.ntmps16
  go_wp2_with (first | (refine loadRow 9 rfl rfl rfl rfl Try.underlying28 rfl (blkN rfl) (by rw [Lw.size]; exact size28) ?_) | (go_at_call 31; refine (HC.out _).mono ?_; rintro e w1 ⟨⟨a, cap, rfl⟩, hb⟩))
  go_ret2
  exact ⟨rfl, belW (belA (Below.refl _ _)) hb⟩

set_option maxRecDepth 100000 in
set_option maxHeartbeats 2000000 in
theorem sCountKind (L : Lw) (hL : Lw.Ok L) (k : Int) (w : World) :
    Calls Try.prog 15 #[.agg L.cells, .int .i64 k] w fun e w' => e = .returned (.tuple #[.int .i64 (cntN L k : Nat), .int .i64 (cntC L k)]) ∧ Below w.heap.size w w' := by
  have HT := fun (g : Nat) (t : TypeId) (w : World) hg => sTold L hL (inB k 0 3) g t w hg
  obtain ⟨fb, hfb⟩ : ∃ fb, fb = inB k 0 3 := ⟨_, rfl⟩
  have HK := Lib.hid (fun (w : World) => sKindK k fb hfb.symm w)
  rw [← hfb] at HT
  by_cases hc : codeB L fb = 0
  · obtain ⟨hv, hf⟩ := codeB_good hc
    obtain ⟨W, H, hw, hh, h1, h2, h3, h4⟩ := sides hv
    have e1 : cntN L k = (keepL (ofB L W k) (W * H)).length := by unfold cntN; rw [hv, ← hfb, hf, hw, hh]; rfl
    have e2 : cntC L k = 0 := by unfold cntC; rw [← hfb]; exact hc
    rw [hc] at HT
    rw [e1, e2]
    have HT := Lib.hid HT
    have HS := Lib.hid (fun (g : Nat) (t : TypeId) (w : World) h => sCells L hL W H hw hh h1 h2 h3 h4 k g t w h)
    clear e1 e2 hL hv hf hc hfb hw hh
    go_enter Try.func15, Try.ntmps15
    go_wp2_with (first | (go_at_call 29; refine (HK.out _).mono ?_; rintro e w1 ⟨rfl, rfl⟩) | (go_at_call 28; refine (HT.out w.heap.size _ _ (blkN rfl)).mono ?_; rintro e w2 ⟨rfl, hb2⟩; have h2 : w2.heap[w.heap.size]? = some (.cells L.cells 28 (0, 0)) := blkB hb2 (blkN rfl) (by simp)) | (go_at_call 30; refine (HS.out w.heap.size _ _ h2).mono ?_; rintro e w3 ⟨v, rfl, ho, hb3⟩; rcases ho.2 with ⟨rfl, hz⟩ | ⟨g, cap, cur, rfl, hrest⟩))
    · rw [hz]
      go_wp2
      go_ret2
      exact ⟨rfl, belW (belW (belA (Below.refl _ _)) hb2) hb3⟩
    · clear hrest
      go_wp2
      go_ret2
      exact ⟨rfl, belW (belW (belA (Below.refl _ _)) hb2) hb3⟩
  · have e1 : cntN L k = 0 := by unfold cntN; rw [← hfb]; unfold codeB at hc; cases hv : validB L <;> cases fb <;> simp_all
    have e2 : cntC L k = codeB L fb := by unfold cntC; rw [← hfb]
    obtain ⟨c0, hc0⟩ : ∃ c0, c0 = codeB L fb := ⟨_, rfl⟩
    rw [e1, e2]
    rw [← hc0] at HT hc ⊢
    have HT := Lib.hid HT
    have hc2 : (c0 != 0) = true := by simpa using hc
    clear e1 e2 hc0 hc hfb hL
    go_enter Try.func15, Try.ntmps15
    go_wp2_with (first | (go_at_call 29; refine (HK.out _).mono ?_; rintro e w1 ⟨rfl, rfl⟩) | (go_at_call 28; refine (HT.out w.heap.size _ _ (blkN rfl)).mono ?_; rintro e w2 ⟨rfl, hb2⟩))
    go_ret2
    exact ⟨rfl, belW (belA (Below.refl _ _)) hb2⟩

set_option maxRecDepth 100000 in
set_option maxHeartbeats 4000000 in
theorem lawCount (L : Lw) (hL : Lw.Ok L) (k : Int) (w : World) :
    Calls Try.prog 6 #[.agg L.cells, .int .i64 k] w fun e w' => e = .returned (.bool true) ∧ Below w.heap.size w w' := by
  have HI := Lib.hid (fun (w : World) => countKind L hL k w)
  have HS := Lib.hid (fun (w : World) => sCountKind L hL k w)
  go_enter Try.func6, Try.ntmps6
  go_wp2_with (refine loadRow 10 rfl rfl rfl rfl Try.underlying26 rfl (blkN rfl) (by rw [Lw.size]; kernel_rfl) ?_)
  refine (toLawn L _).mono ?_
  rintro e w1 ⟨rfl, hb⟩
  have hB1 := belW (belA (Below.refl w.heap.size w)) hb
  have h1 : w1.heap[w.heap.size]? = some (.cells L.cells 26 (0, 0)) := blkB hb (blkN rfl) (by simp)
  clear hb
  go_wp2_with fail
  refine (HS.out _).mono ?_
  rintro e w2 ⟨rfl, hb⟩
  have hB2 := belW hB1 hb
  have h2 := blkB hb h1 (blkLt h1)
  clear hb hB1 h1
  go_wp2_with (refine loadRow 17 rfl rfl rfl rfl Try.underlying26 rfl h2 (by rw [Lw.size]; kernel_rfl) ?_)
  refine (toLawn L _).mono ?_
  rintro e w4 ⟨rfl, hb⟩
  have hB4 := belW hB2 hb
  clear hb hB2
  go_wp2_with fail
  refine (HI.out _).mono ?_
  rintro e w5 ⟨rfl, hb⟩
  have hB5 := belW hB4 hb
  clear hb hB4
  go_wp2
  go_ret
  exact ⟨rfl, hB5⟩
end Go.Proofs.Ytefdnnjnmgnnpaa.L
