/- Walks: the code of a cell of grass, SidesAt twice, and what compares sides. -/
import Derived.Test.YtchhjdjdhlfhlaaSides
namespace Go.Proofs.Ytchhjdjdhlfhlaa.L
set_option linter.unusedSimpArgs false
set_option linter.unusedVariables false
open Go.RowKit Go.Proofs.Ytchhjdjdhlfhlaa.B

theorem cell_in {L : Lw} {x y : Int} (hv : validB L = true) (hh : hasB L x y = true) : ∃ i j : Nat, x = i ∧ y = j ∧ i < 10 ∧ j < 10 := by
  simp only [validB, sideB, hasB, Bool.and_eq_true, decide_eq_true_eq] at hv hh
  exact ⟨x.toNat, y.toNat, by omega, by omega, by omega, by omega⟩
theorem codeB_ok {L : Lw} {f : Bool} (h : codeB L f = 0) : validB L = true ∧ f = true := by
  unfold codeB at h
  cases hv : validB L <;> cases f <;> simp_all
theorem codeB_cases (L : Lw) (f : Bool) : codeB L f = 0 ∨ codeB L f = 1 ∨ codeB L f = 2 := by
  unfold codeB
  cases validB L <;> cases f <;> simp
/-- The code of a cell of grass. -/
def gcB (L : Lw) (x y : Int) : Int := if codeB L (hasB L x y) = 0 then (if isB L 0 x y then 0 else 4) else codeB L (hasB L x y)
/-- The sides told. -/
def sdB (L : Lw) (x y : Int) : Nat → Int := if gcB L x y = 0 then sideC L x y 4 else fun _ => 0
theorem gcB_cases (L : Lw) (x y : Int) : gcB L x y = 0 ∨ gcB L x y = 1 ∨ gcB L x y = 2 ∨ gcB L x y = 4 := by
  unfold gcB
  rcases codeB_cases L (hasB L x y) with h | h | h <;> rw [h] <;> simp
  cases isB L 0 x y <;> simp
theorem gcB_ok {L : Lw} {x y : Int} (h : gcB L x y = 0) : validB L = true ∧ hasB L x y = true := by
  unfold gcB at h
  split at h
  · exact codeB_ok (by assumption)
  · exact codeB_ok h
theorem in_of {L : Lw} {x y : Int} (hv : validB L = true) : hasB L x y = true → x < 10 ∧ y < 10 := by
  obtain ⟨W, H, hw, hh, a1, a2, a3, a4⟩ := sides hv
  exact hin hw hh a2 a4 x y
set_option maxRecDepth 100000 in
set_option maxHeartbeats 1000000 in
theorem grassCode (L : Lw) (hL : Lw.Ok L) (x y : Int) (g c : Nat) (w : World) (hg : w.heap[g]? = some (.cells #[.int .i8 x, .int .i8 y] 44 (0, 0))) :
    Calls Try.prog 32 #[.agg L.cells, .slice (some ⟨g, 0, none⟩) 1 c] w fun e w' => e = .returned (.int .i64 (gcB L x y)) ∧ Below w.heap.size w w' := by
  have hlt := blkLt hg
  rcases codeB_cases L (hasB L x y) with hc | hc | hc
  · obtain ⟨hv, hh⟩ := codeB_ok hc
    have HIN := Lib.hid (in_of (x := x) (y := y) hv)
    have HC := fun (g c : Nat) (w : World) hg => hc ▸ cells1 L hL x y g c w hg
    have HC := Lib.hid HC
    have HL := Lib.hid hL
    clear hv hh
    rcases twoways (isB L 0 x y) with b | b
    · have e : gcB L x y = 4 := by simp [gcB, hc, b]
      have hr : (!isB L 0 x y) = true := by rw [b]; rfl
      have HR := Lib.hid hr
      rw [e]
      clear hc b e hr hL
      go_enter Try.func32, Try.ntmps32
      go_wp2_with (first | ((with_reducible refine atDst 6 rfl ?_); refine loadRow 6 rfl rfl rfl rfl Try.underlying30 rfl (blkN rfl) (by rw [Lw.size]; exact size28) ?_) | (go_at_call 39; refine (HC.out _ _ _ (blkA hg)).mono ?_; rintro e w1 ⟨rfl, hb⟩; have h1 : w1.heap[w.heap.size]? = some (.cells L.cells 30 (0, 0)) := blkB hb (blkN rfl) (by simp); have hg1 := blkB hb (blkA hg) (by simp; omega)) | (go_at_call 52; refine (containsG L HL.out x y HIN.out g w.heap.size c true HR.out _ hg1 h1).mono ?_; rintro e w2 ⟨rfl, hb2⟩))
      go_ret
      exact ⟨rfl, belW (belW (belA (Below.refl _ _)) hb) hb2⟩
    · have e : gcB L x y = 0 := by simp [gcB, hc, b]
      have hr : (!isB L 0 x y) = false := by rw [b]; rfl
      have HR := Lib.hid hr
      rw [e]
      clear hc b e hr hL
      go_enter Try.func32, Try.ntmps32
      go_wp2_with (first | ((with_reducible refine atDst 6 rfl ?_); refine loadRow 6 rfl rfl rfl rfl Try.underlying30 rfl (blkN rfl) (by rw [Lw.size]; exact size28) ?_) | (go_at_call 39; refine (HC.out _ _ _ (blkA hg)).mono ?_; rintro e w1 ⟨rfl, hb⟩; have h1 : w1.heap[w.heap.size]? = some (.cells L.cells 30 (0, 0)) := blkB hb (blkN rfl) (by simp); have hg1 := blkB hb (blkA hg) (by simp; omega)) | (go_at_call 52; refine (containsG L HL.out x y HIN.out g w.heap.size c false HR.out _ hg1 h1).mono ?_; rintro e w2 ⟨rfl, hb2⟩))
      go_ret
      exact ⟨rfl, belW (belW (belA (Below.refl _ _)) hb) hb2⟩
  all_goals
    have e : gcB L x y = codeB L (hasB L x y) := by simp [gcB, hc]
    have HC := fun (g c : Nat) (w : World) hg => hc ▸ cells1 L hL x y g c w hg
    have HC := Lib.hid HC
    rw [e, hc]
    clear hc e
    go_enter Try.func32, Try.ntmps32
    go_wp2_with (first | ((with_reducible refine atDst 6 rfl ?_); refine loadRow 6 rfl rfl rfl rfl Try.underlying30 rfl (blkN rfl) (by rw [Lw.size]; exact size28) ?_) | (go_at_call 39; refine (HC.out _ _ _ (blkA hg)).mono ?_; rintro e w1 ⟨rfl, hb⟩))
    go_ret
    exact ⟨rfl, belW (belA (Below.refl _ _)) hb⟩
set_option maxRecDepth 100000 in
set_option maxHeartbeats 1000000 in
theorem sGrassCode (L : Lw) (hL : Lw.Ok L) (x y : Int) (hx0 : -128 ≤ x) (hx1 : x ≤ 127) (hy0 : -128 ≤ y) (hy1 : y ≤ 127) (g : Nat) (t : TypeId) (w : World) (hg : w.heap[g]? = some (.cells L.cells t (0, 0))) :
    Calls Try.prog 30 #[.pointer (some ⟨g, 0, none⟩), .agg #[.int .i8 x, .int .i8 y]] w fun e w' => e = .returned (.int .i64 (gcB L x y)) ∧ Below w.heap.size w w' := by
  have hlt := blkLt hg
  have HI := fun (g : Nat) (t : TypeId) (w : World) hg => sIs L hL x y g t hx0 hx1 hy0 hy1 w hg
  have HI := Lib.hid HI
  have HT := fun (g : Nat) (t : TypeId) (w : World) hg => sTold L hL (hasB L x y) g t w hg
  have HT := Lib.hid HT
  rcases codeB_cases L (hasB L x y) with hc | hc | hc
  · obtain ⟨hv, hh⟩ := codeB_ok hc
    obtain ⟨i, j, rfl, rfl, hi, hj⟩ := cell_in hv hh
    have HC := Lib.hid hc
    have HK := fun (g : Nat) (t : TypeId) (w : World) hg => sAt L hL i j hi hj g t w hg
    have hI : isB L 0 i j = (L.c (j * 10 + i) == 0) := by unfold isB; rw [hh]; rfl
    have hG : gcB L i j = if L.c (j * 10 + i) == 0 then 0 else 4 := by rw [gcB, hc, hI]; rfl
    obtain ⟨q, hq⟩ : ∃ q, q = L.c (j * 10 + i) := ⟨_, rfl⟩
    rw [← hq] at HK hG
    have HK := Lib.hid HK
    rw [hG]
    clear hq hG hI hc hv hh
    rcases twoways (q == 0) with b | b
    · have b2 : (q != 0) = true := by simpa using b
      rw [b]
      go_enter Try.func30, Try.ntmps30
      go_wp2_with (first | (go_at_call 48; refine (HI.out g _ _ (blkA hg)).mono ?_; rintro e w1 ⟨rfl, hb⟩; have h1 := blkB hb (blkA hg) (by simp; omega); have h2 : w1.heap[w.heap.size]? = some (.cells #[.int .i8 i, .int .i8 j] 44 (0, 0)) := blkB hb (blkN rfl) (by simp)) | (go_at_call 50; refine (HT.out g _ _ h1).mono ?_; rw [HC.out]; rintro e w2 ⟨rfl, hb2⟩; have h3 := blkB hb2 h1 (blkLt h1); have h4 := blkB hb2 h2 (blkLt h2); have c0 := cellAt h4 (o := 0) rfl; have c1 := cellAt h4 (o := 1) rfl) | (go_at_call 49; refine (HK.out g _ _ h3).mono ?_; rintro e w3 ⟨rfl, hb3⟩))
      go_ret
      exact ⟨rfl, belW (belW (belW (belA (Below.refl _ _)) hb) hb2) hb3⟩
    · have b2 : (q != 0) = false := by simpa using b
      rw [b]
      go_enter Try.func30, Try.ntmps30
      go_wp2_with (first | (go_at_call 48; refine (HI.out g _ _ (blkA hg)).mono ?_; rintro e w1 ⟨rfl, hb⟩; have h1 := blkB hb (blkA hg) (by simp; omega); have h2 : w1.heap[w.heap.size]? = some (.cells #[.int .i8 i, .int .i8 j] 44 (0, 0)) := blkB hb (blkN rfl) (by simp)) | (go_at_call 50; refine (HT.out g _ _ h1).mono ?_; rw [HC.out]; rintro e w2 ⟨rfl, hb2⟩; have h3 := blkB hb2 h1 (blkLt h1); have h4 := blkB hb2 h2 (blkLt h2); have c0 := cellAt h4 (o := 0) rfl; have c1 := cellAt h4 (o := 1) rfl) | (go_at_call 49; refine (HK.out g _ _ h3).mono ?_; rintro e w3 ⟨rfl, hb3⟩))
      go_ret
      exact ⟨rfl, belW (belW (belW (belA (Below.refl _ _)) hb) hb2) hb3⟩
  all_goals
    have e : gcB L x y = codeB L (hasB L x y) := by simp [gcB, hc]
    have HC := Lib.hid hc
    rw [e, hc]
    clear hc e
    go_enter Try.func30, Try.ntmps30
    go_wp2_with (first | (go_at_call 48; refine (HI.out g _ _ (blkA hg)).mono ?_; rintro e w1 ⟨rfl, hb⟩; have h1 := blkB hb (blkA hg) (by simp; omega)) | (go_at_call 50; refine (HT.out g _ _ h1).mono ?_; rw [HC.out]; rintro e w2 ⟨rfl, hb2⟩))
    go_ret
    exact ⟨rfl, belW (belW (belA (Below.refl _ _)) hb) hb2⟩
set_option maxRecDepth 100000 in
set_option maxHeartbeats 1000000 in
theorem sidesAt (L : Lw) (hL : Lw.Ok L) (x y : Int) (w : World) :
    Calls Try.prog 16 #[.agg L.cells, .agg #[.int .i8 x, .int .i8 y]] w fun e w' => e = .returned (.tuple #[.agg (arr .i64 5 (sdB L x y)), .int .i64 (gcB L x y)]) ∧ Below w.heap.size w w' := by
  have HG := fun (g c : Nat) (w : World) hg => grassCode L hL x y g c w hg
  rcases twoways (gcB L x y == 0) with b | b
  · have e : sdB L x y = fun _ => 0 := by have h : ¬ gcB L x y = 0 := by simpa using b
                                          simp [sdB, h]
    rw [e]
    have HG := Lib.hid HG
    obtain ⟨q, hq⟩ : ∃ q, q = gcB L x y := ⟨_, rfl⟩
    have b2 : (q != 0) = true := by rw [hq]; simpa using b
    have HG2 := Lib.hid (hq ▸ HG.out)
    rw [← hq]
    clear hq b e HG
    go_enter Try.func16, Try.ntmps16
    go_wp2_with (first | ((with_reducible refine atDst 7 rfl ?_); refine loadRow 7 rfl rfl rfl rfl Try.underlying30 rfl (blkA (blkA (blkN rfl))) (by rw [Lw.size]; exact size28) ?_) | (go_at_call 32; refine (HG2.out _ _ _ (blkN (by simp))).mono ?_; rintro e w1 ⟨rfl, hb⟩; have hB1 := belW (belA (belA (belA (belA (Below.refl w.heap.size w))))) hb; have h3 : w1.heap[w.heap.size + 1 + 1]? = some (.cells (arr .i64 5 (fun _ => 0)) 41 (0, 0)) := blkB hb (blkA (z5 ▸ blkN (by simp))) (by first | (simp; done) | (simp; omega))) | (refine storeRow (c' := arr .i64 5 (fun _ => 0)) rfl rfl rfl rfl (congrArg Value.agg z5.symm) h3 (by rw [arr_size]; exact size5) rfl (arr_one _ _ _) ?_; intro w4 j1 j2 j3 j4))
    exact retRowTmp rfl rfl rfl j1 Try.underlying41 rfl (by rw [arr_size]; exact size5) rfl ⟨rfl, belT hB1 j3 (by omega)⟩
  · have b' : gcB L x y = 0 := by simpa using b
    have e : sdB L x y = sideC L x y 4 := by simp [sdB, b']
    obtain ⟨hv, hh⟩ := gcB_ok b'
    have HA := fun (h1 : 0 ≤ x) (h2 : x ≤ 9) (h3 : 0 ≤ y) (h4 : y ≤ 9) (w : World) => around L hL hv x y h1 h2 h3 h4 w
    obtain ⟨i, j, rfl, rfl, hi, hj⟩ := cell_in hv hh
    have HA := Lib.hid (HA (by omega) (by omega) (by omega) (by omega))
    rw [e, b']
    have HG2 := Lib.hid (b' ▸ HG)
    clear b b' e HG hv hh
    go_enter Try.func16, Try.ntmps16
    go_wp2_with (first | ((with_reducible refine atDst 7 rfl ?_); refine loadRow 7 rfl rfl rfl rfl Try.underlying30 rfl (blkA (blkA (blkN rfl))) (by rw [Lw.size]; exact size28) ?_) | ((with_reducible refine atDst 15 rfl ?_); refine loadRow 15 rfl rfl rfl rfl Try.underlying30 rfl h1 (by rw [Lw.size]; exact size28) ?_) | (go_at_call 32; refine (HG2.out _ _ _ (blkN (by simp))).mono ?_; rintro e w1 ⟨rfl, hb⟩; have hB1 := belW (belA (belA (belA (belA (Below.refl w.heap.size w))))) hb; have h1 : w1.heap[w.heap.size]? = some (.cells L.cells 30 (0, 0)) := blkB hb (blkA (blkA (blkA (blkN rfl)))) (by first | (simp; done) | (simp; omega)); have h2 : w1.heap[w.heap.size + 1]? = some (.cells #[.int .i8 i, .int .i8 j] 44 (0, 0)) := blkB hb (blkA (blkA (blkN (by simp)))) (by first | (simp; done) | (simp; omega)); have h3 : w1.heap[w.heap.size + 1 + 1]? = some (.cells (arr .i64 5 (fun _ => 0)) 41 (0, 0)) := blkB hb (blkA (z5 ▸ blkN (by simp))) (by first | (simp; done) | (simp; omega)); have c0 := cellAt h2 (o := 0) rfl; have c1 := cellAt h2 (o := 1) rfl) | (go_at_call 33; refine (HA.out _).mono ?_; rintro e w2 ⟨rfl, hb2⟩; have hB2 := belW hB1 hb2; have h4 := blkB hb2 h3 (blkLt h3)) | (refine storeRow rfl rfl rfl rfl rfl h4 (by rw [arr_size]; exact size5) (by simp only [arr_size]) (arr_one _ _ _) ?_; intro w4 j1 j2 j3 j4))
    exact retRowTmp rfl rfl rfl j1 Try.underlying41 rfl (by rw [arr_size]; exact size5) rfl ⟨rfl, belT hB2 j3 (by omega)⟩
set_option maxRecDepth 100000 in
set_option maxHeartbeats 1000000 in
theorem sSidesAt (L : Lw) (hL : Lw.Ok L) (x y : Int) (hx0 : -128 ≤ x) (hx1 : x ≤ 127) (hy0 : -128 ≤ y) (hy1 : y ≤ 127) (w : World) :
    Calls Try.prog 14 #[.agg L.cells, .agg #[.int .i8 x, .int .i8 y]] w fun e w' => e = .returned (.tuple #[.agg (arr .i64 5 (sdB L x y)), .int .i64 (gcB L x y)]) ∧ Below w.heap.size w w' := by
  have HG := fun (g : Nat) (t : TypeId) (w : World) hg => sGrassCode L hL x y hx0 hx1 hy0 hy1 g t w hg
  rcases twoways (gcB L x y == 0) with b | b
  · have e : sdB L x y = fun _ => 0 := by have h : ¬ gcB L x y = 0 := by simpa using b
                                          simp [sdB, h]
    rw [e]
    have HG := Lib.hid HG
    obtain ⟨q, hq⟩ : ∃ q, q = gcB L x y := ⟨_, rfl⟩
    have b2 : (q != 0) = true := by rw [hq]; simpa using b
    have HG2 := Lib.hid (hq ▸ HG.out)
    rw [← hq]
    clear hq b e HG
    go_enter Try.func14, Try.ntmps14
    go_wp2_with (first | (go_at_call 30; refine (HG2.out _ _ _ (blkA (blkA (blkN rfl)))).mono ?_; rintro e w1 ⟨rfl, hb⟩; have hB1 := belW (belA (belA (belA (Below.refl w.heap.size w)))) hb; have h3 : w1.heap[w.heap.size + 1 + 1]? = some (.cells (arr .i64 5 (fun _ => 0)) 41 (0, 0)) := blkB hb (z5 ▸ blkN (by simp)) (by first | (simp; done) | (simp; omega))) | (refine storeRow (c' := arr .i64 5 (fun _ => 0)) rfl rfl rfl rfl (congrArg Value.agg z5.symm) h3 (by rw [arr_size]; exact size5) rfl (arr_one _ _ _) ?_; intro w4 j1 j2 j3 j4))
    exact retRowTmp rfl rfl rfl j1 Try.underlying41 rfl (by rw [arr_size]; exact size5) rfl ⟨rfl, belT hB1 j3 (by omega)⟩
  · have b' : gcB L x y = 0 := by simpa using b
    have e : sdB L x y = sideC L x y 4 := by simp [sdB, b']
    obtain ⟨hv, hh⟩ := gcB_ok b'
    have HA := fun (h1 : 0 ≤ x) (h2 : x ≤ 9) (h3 : 0 ≤ y) (h4 : y ≤ 9) (g : Nat) (t : TypeId) (w : World) hg => sAround L hL hv x y h1 h2 h3 h4 g t w hg
    obtain ⟨i, j, rfl, rfl, hi, hj⟩ := cell_in hv hh
    have HA := Lib.hid (HA (by omega) (by omega) (by omega) (by omega))
    rw [e, b']
    have HG2 := Lib.hid (b' ▸ HG)
    clear b b' e HG hv hh
    go_enter Try.func14, Try.ntmps14
    go_wp2_with (first | (go_at_call 30; refine (HG2.out _ _ _ (blkA (blkA (blkN rfl)))).mono ?_; rintro e w1 ⟨rfl, hb⟩; have hB1 := belW (belA (belA (belA (Below.refl w.heap.size w)))) hb; have h1 : w1.heap[w.heap.size]? = some (.cells L.cells 30 (0, 0)) := blkB hb (blkA (blkA (blkN rfl))) (by first | (simp; done) | (simp; omega)); have h2 : w1.heap[w.heap.size + 1]? = some (.cells #[.int .i8 i, .int .i8 j] 44 (0, 0)) := blkB hb (blkA (blkN (by simp))) (by first | (simp; done) | (simp; omega)); have h3 : w1.heap[w.heap.size + 1 + 1]? = some (.cells (arr .i64 5 (fun _ => 0)) 41 (0, 0)) := blkB hb (z5 ▸ blkN (by simp)) (by first | (simp; done) | (simp; omega)); have c0 := cellAt h2 (o := 0) rfl; have c1 := cellAt h2 (o := 1) rfl) | (go_at_call 31; refine (HA.out _ _ _ h1).mono ?_; rintro e w2 ⟨rfl, hb2⟩; have hB2 := belW hB1 hb2; have h4 := blkB hb2 h3 (blkLt h3)) | (refine storeRow rfl rfl rfl rfl rfl h4 (by rw [arr_size]; exact size5) (by simp only [arr_size]) (arr_one _ _ _) ?_; intro w4 j1 j2 j3 j4))
    exact retRowTmp rfl rfl rfl j1 Try.underlying41 rfl (by rw [arr_size]; exact size5) rfl ⟨rfl, belT hB2 j3 (by omega)⟩
set_option maxRecDepth 100000 in
set_option maxHeartbeats 1000000 in
theorem eqSides (c : Nat → Int) (w : World) :
    Calls Try.prog 17 #[.agg (arr .i64 5 c), .agg (arr .i64 5 c)] w fun e w' => e = .returned (.bool true) ∧ Below w.heap.size w w' := by
  go_enter Try.func17, Try.ntmps17
  go_wp2
  go_loopw [5] (fun i wr => ∃ k : Nat, k ≤ 5 ∧ i = .int .i64 k ∧ Below w.heap.size w wr ∧ wr.heap[w.heap.size]? = some (.cells (arr .i64 5 c) 41 (0, 0)) ∧ wr.heap[w.heap.size + 1]? = some (.cells (arr .i64 5 c) 41 (0, 0))) (fun i _ => 5 - (intOf i).toNat)
  case atStart => exact ⟨0, by omega, rfl, belA (belA (Below.refl _ _)), blkA (blkN rfl), blkN (by simp)⟩
  case round =>
    obtain ⟨k, hk, rfl, hB, h0, h1⟩ := hrel
    by_cases hkt : k < 5
    · have hd : decide ((k : Int) < 5) = true := by simp; omega
      have b0 : (0 : Int) ≤ k := by omega
      have b1 : (k : Int) < 5 := by omega
      have c0 := (blkC h0 k).trans (arr_get hkt)
      have c1 := (blkC h1 k).trans (arr_get hkt)
      go_wp2
      refine wp_region_held_drew (S := fun w' => Below w.heap.size w w' ∧ w'.heap[w.heap.size]? = some (.cells (arr .i64 5 c) 41 (0, 0)) ∧ w'.heap[w.heap.size + 1]? = some (.cells (arr .i64 5 c) 41 (0, 0)) ∧ w'.cell? ⟨w.heap.size, k, none⟩ = some (.int .i64 (c k)) ∧ w'.cell? ⟨w.heap.size + 1, k, none⟩ = some (.int .i64 (c k))) (by kernel_rfl) ⟨belD hB, blkD h0, blkD h1, celD c0, celD c1⟩ (fun hS => ?_)
      refine takeAny 0 (dN := some 10) (v := ?v1_0_1) rfl rfl (by kernel_rfl) (by kernel_rfl) (by kernel_rfl) (fun _ _ _ h => h) (.inl ⟨rfl, fun w' hSw => ?h1_0_1⟩) hS ?_
      case h1_0_1 => (go_simp; first | done | with_reducible rfl)
      simp only [Act.put, List.setIfInBounds_toArray, List.set_cons_zero, List.set_cons_succ]
      refine takeAny 1 (dN := some 11) (v := ?v1_1_2) rfl rfl (by kernel_rfl) (by kernel_rfl) (by kernel_rfl) (fun _ _ _ h => h) (.inl ⟨rfl, fun w' hSw => ?h1_1_2⟩) hS ?_
      case h1_1_2 => (go_simp; first | done | with_reducible rfl)
      simp only [Act.put, List.setIfInBounds_toArray, List.set_cons_zero, List.set_cons_succ]
      refine takeAny 2 (dN := some 12) (v := ?v1_2_3) rfl rfl (by kernel_rfl) (by kernel_rfl) (by kernel_rfl) (fun _ _ _ h => h) (.inl ⟨rfl, fun w' hSw => ?h1_2_3⟩) hS ?_
      case h1_2_3 => (go_simp; first | done | with_reducible rfl)
      simp only [Act.put, List.setIfInBounds_toArray, List.set_cons_zero, List.set_cons_succ]
      refine takeAny 3 (dN := some 13) (v := ?v1_3_4) rfl rfl (by kernel_rfl) (by kernel_rfl) (by kernel_rfl) (fun _ _ _ h => h) (.inl ⟨rfl, fun w' hSw => ?h1_3_4⟩) hS ?_
      case h1_3_4 => (go_simp; first | done | with_reducible rfl)
      simp only [Act.put, List.setIfInBounds_toArray, List.set_cons_zero, List.set_cons_succ]
      refine takeAny 4 (dN := some 14) (v := ?v1_4_5) rfl rfl (by kernel_rfl) (by kernel_rfl) (by kernel_rfl) (fun _ _ _ h => h) (.inl ⟨rfl, fun w' hSw => ?h1_4_5⟩) hS ?_
      case h1_4_5 => (go_simp; first | done | with_reducible rfl)
      simp only [Act.put, List.setIfInBounds_toArray, List.set_cons_zero, List.set_cons_succ]
      refine takeAny 5 (dN := some 15) (v := ?v1_5_6) rfl rfl (by kernel_rfl) (by kernel_rfl) (by kernel_rfl) (fun _ _ _ h => h) (.inl ⟨rfl, fun w' hSw => ?h1_5_6⟩) hS ?_
      case h1_5_6 => (go_simp; first | done | with_reducible rfl)
      simp only [Act.put, List.setIfInBounds_toArray, List.set_cons_zero, List.set_cons_succ]
      refine takeAny 6 (dN := some 16) (v := ?v1_6_7) rfl rfl (by kernel_rfl) (by kernel_rfl) (by kernel_rfl) (fun _ _ _ h => h) (.inl ⟨rfl, fun w' hSw => ?h1_6_7⟩) hS ?_
      case h1_6_7 => (go_simp; first | done | with_reducible rfl)
      simp only [Act.put, List.setIfInBounds_toArray, List.set_cons_zero, List.set_cons_succ]
      refine wpAnyH_done (by kernel_rfl) ?_ _
      go_wp2
      refine ⟨?_, by simp [intOf]; omega⟩
      first | exact ⟨k + 1, by omega, by go_num, belD hB, blkD h0, blkD h1⟩ | ((repeat (apply Exists.intro)); exact ⟨⟨k + 1, by omega, by go_num, belD hB, blkD h0, blkD h1⟩, rfl⟩)
    · have hd : decide ((k : Int) < 5) = false := by simp; omega
      go_wp2
      go_ret
      exact ⟨rfl, hB⟩
end Go.Proofs.Ytchhjdjdhlfhlaa.L
