/- Walks: SetCell. -/
import Derived.Test.YtbjglaflggkalaaKindAt
import Derived.Test.YtbjglaflggkalaaEq
import Derived.Deep.DeepCutAuto
namespace Go.Proofs.Ytbjglaflggkalaa.L
set_option linter.unusedSimpArgs false
set_option linter.unusedVariables false
open Go.RowKit Go.Proofs.Ytbjglaflggkalaa.B

/-- A lawn with another kind of one cell. -/
def Lw.put (L : Lw) (n : Nat) (k : Int) : Lw := { L with c := fun j => if j = n then k else L.c j }
def setL (L : Lw) (x y k : Int) : Lw := if validB L && (hasB L x y && inB k 0 3) then Lw.put L (y.toNat * 10 + x.toNat) k else ⟨0, 0, fun _ => 0⟩
def setC (L : Lw) (x y k : Int) : Int := codeB L (hasB L x y && inB k 0 3)
theorem set_cases (L : Lw) (x y k : Int) :
    (validB L = true ∧ hasB L x y = true ∧ inB k 0 3 = true ∧ setL L x y k = Lw.put L (y.toNat * 10 + x.toNat) k ∧ setC L x y k = 0 ∧ codeB L (hasB L x y) = 0) ∨
    (setL L x y k = ⟨0, 0, fun _ => 0⟩ ∧ setC L x y k = codeB L (hasB L x y) ∧ codeB L (hasB L x y) ≠ 0) ∨
    (inB k 0 3 = false ∧ setL L x y k = ⟨0, 0, fun _ => 0⟩ ∧ setC L x y k = 2 ∧ codeB L (hasB L x y) = 0) := by
  unfold setL setC codeB
  cases validB L <;> cases hasB L x y <;> cases inB k 0 3 <;> simp

set_option maxHeartbeats 1000000 in
theorem within (n a b : Int) (r : Bool) (hr : inB n a b = r) (w : World) : Calls Try.prog 19 #[.int .i64 n, .int .i64 a, .int .i64 b] w fun e w' => e = .returned (.bool r) ∧ w = w' := by
  subst hr
  rcases twoways (decide (a ≤ n)) with b1 | b1
  · go_enter Try.func19, Try.ntmps19
    go_wp2
    go_ret
    exact ⟨by simp [inB, b1], rfl⟩
  · go_enter Try.func19, Try.ntmps19
    go_wp2
    go_ret
    exact ⟨by simp [inB, b1], rfl⟩

set_option maxRecDepth 100000 in
set_option maxHeartbeats 2000000 in
theorem setCell (L : Lw) (hL : Lw.Ok L) (x y k : Int) (w : World) :
    Calls Try.prog 17 #[.agg L.cells, .agg #[.int .i8 x, .int .i8 y], .int .i64 k] w fun e w' => e = .returned (.tuple #[.agg (setL L x y k).cells, .int .i64 (setC L x y k)]) ∧ Below w.heap.size w w' := by
  obtain ⟨hz, _⟩ := zero_of_info zeroLw
  rcases set_cases L x y k with ⟨hv, hh, hk, e1, e2, hc⟩ | ⟨e1, e2, hc⟩ | ⟨hk, e1, e2, hc⟩
  · obtain ⟨i, j, rfl, rfl, hi, hj⟩ := cell_in hv hh
    have HC := fun (g c : Nat) (w : World) hg => hc ▸ cells1 L hL i j g c w hg
    have HC := Lib.hid HC
    simp only [Int.toNat_natCast] at e1
    rw [e1, e2]
    clear e1 e2 hc hv hh
    go_enter Try.func17, Try.ntmps17
    go_wp2_with (first | (refine loadRow 9 rfl rfl rfl rfl Try.underlying26 rfl (blkA (blkA (blkN rfl))) (by rw [Lw.size]; exact size28) ?_) | (go_at_call 27; refine (HC.out _ _ _ (blkN (by simp))).mono ?_; rintro e w1 ⟨rfl, hb⟩; have hB1 := belW (belA (belA (belA (belA (Below.refl w.heap.size w))))) hb; have h1 : w1.heap[w.heap.size]? = some (.cells L.cells 26 (0, 0)) := blkB hb (blkA (blkA (blkA (blkN rfl)))) (by first | (simp; done) | (simp; omega)); have h2 : w1.heap[w.heap.size + 1]? = some (.cells #[.int .i8 i, .int .i8 j] 39 (0, 0)) := blkB hb (blkA (blkA (blkN (by simp)))) (by first | (simp; done) | (simp; omega)); have h3 : w1.heap[w.heap.size + 1 + 1]? = some (.cells (Lw.cells ⟨0, 0, fun _ => 0⟩) 26 (0, 0)) := blkB hb (blkA (blkN (by simp))) (by first | (simp; done) | (simp; omega))) | (go_at_call 19; refine (within _ _ _ true hk _).mono ?_; rintro e w2 ⟨rfl, rfl⟩))
    have h1' : w1.drew.heap[w.heap.size]? = some (.cells L.cells 26 (0, 0)) := blkD h1
    have c0 : w1.drew.cell? ⟨w.heap.size + 1, 0, none⟩ = some (.int .i8 i) := (blkC (blkD h2) 0).trans rfl
    have c1 : w1.drew.cell? ⟨w.heap.size + 1, 1, none⟩ = some (.int .i8 j) := (blkC (blkD h2) 1).trans rfl
    have c2 : w1.drew.cell? ⟨w.heap.size, 2 + j * 10 + i, none⟩ = some (.int .u8 (L.c (j * 10 + i))) := (blkC h1' _).trans (L.getYX (by omega))
    have f2 := blkF h1'
    have x1 : IntKind.u8.wrap k = k := by simp only [inB, Bool.and_eq_true, decide_eq_true_eq] at hk; exact IntWalk.u8_in _ (by omega)
    have b1 : (0 : Int) ≤ i := by omega
    have b2 : (i : Int) < 10 := by omega
    have b3 : (0 : Int) ≤ j := by omega
    have b4 : (j : Int) < 10 := by omega
    clear hb
    refine wp_region_held_drew (S := fun w' => w'.cell? ⟨w.heap.size + 1, 0, none⟩ = some (.int .i8 i) ∧ w'.cell? ⟨w.heap.size + 1, 1, none⟩ = some (.int .i8 j)) (by kernel_rfl) ⟨c0, c1⟩ (fun hS => ?_)
    refine takeAny 0 (dN := some 24) (v := ?v9_0_1) rfl rfl (by kernel_rfl) (by kernel_rfl) (by kernel_rfl) (fun _ _ _ h => h) (.inl ⟨rfl, fun w' hSw => ?h9_0_1⟩) hS ?_
    case h9_0_1 => (go_simp; first | done | with_reducible rfl)
    simp only [Act.put, List.setIfInBounds_toArray, List.set_cons_zero, List.set_cons_succ]
    refine takeAny 1 (dN := some 25) (v := ?v9_1_2) rfl rfl (by kernel_rfl) (by kernel_rfl) (by kernel_rfl) (fun _ _ _ h => h) (.inl ⟨rfl, fun w' hSw => ?h9_1_2⟩) hS ?_
    case h9_1_2 => (go_simp; first | done | with_reducible rfl)
    simp only [Act.put, List.setIfInBounds_toArray, List.set_cons_zero, List.set_cons_succ]
    refine takeAny 2 (dN := some 26) (v := ?v9_2_3) rfl rfl (by kernel_rfl) (by kernel_rfl) (by kernel_rfl) (fun _ _ _ h => h) (.inl ⟨rfl, fun w' hSw => ?h9_2_3⟩) hS ?_
    case h9_2_3 => (go_simp; first | done | with_reducible rfl)
    simp only [Act.put, List.setIfInBounds_toArray, List.set_cons_zero, List.set_cons_succ]
    refine takeAny 3 (dN := some 27) (v := ?v9_3_4) rfl rfl (by kernel_rfl) (by kernel_rfl) (by kernel_rfl) (fun _ _ _ h => h) (.inl ⟨rfl, fun w' hSw => ?h9_3_4⟩) hS ?_
    case h9_3_4 => (go_simp; first | done | with_reducible rfl)
    simp only [Act.put, List.setIfInBounds_toArray, List.set_cons_zero, List.set_cons_succ]
    refine takeAny 4 (dN := some 28) (v := ?v9_4_5) rfl rfl (by kernel_rfl) (by kernel_rfl) (by kernel_rfl) (fun _ _ _ h => h) (.inl ⟨rfl, fun w' hSw => ?h9_4_5⟩) hS ?_
    case h9_4_5 => (go_simp; first | done | with_reducible rfl)
    simp only [Act.put, List.setIfInBounds_toArray, List.set_cons_zero, List.set_cons_succ]
    refine takeAny 5 (dN := some 29) (v := ?v9_5_6) rfl rfl (by kernel_rfl) (by kernel_rfl) (by kernel_rfl) (fun _ _ _ h => h) (.inl ⟨rfl, fun w' hSw => ?h9_5_6⟩) hS ?_
    case h9_5_6 => (go_simp; first | done | with_reducible rfl)
    simp only [Act.put, List.setIfInBounds_toArray, List.set_cons_zero, List.set_cons_succ]
    refine takeAny 6 (dN := some 30) (v := ?v9_6_7) rfl rfl (by kernel_rfl) (by kernel_rfl) (by kernel_rfl) (fun _ _ _ h => h) (.inl ⟨rfl, fun w' hSw => ?h9_6_7⟩) hS ?_
    case h9_6_7 => (go_simp; first | done | with_reducible rfl)
    simp only [Act.put, List.setIfInBounds_toArray, List.set_cons_zero, List.set_cons_succ]
    refine takeAny 7 (dN := some 31) (v := ?v9_7_8) rfl rfl (by kernel_rfl) (by kernel_rfl) (by kernel_rfl) (fun _ _ _ h => h) (.inl ⟨rfl, fun w' hSw => ?h9_7_8⟩) hS ?_
    case h9_7_8 => (go_simp; first | done | with_reducible rfl)
    simp only [Act.put, List.setIfInBounds_toArray, List.set_cons_zero, List.set_cons_succ]
    refine takeAny 8 (dN := some 32) (v := ?v9_8_9) rfl rfl (by kernel_rfl) (by kernel_rfl) (by kernel_rfl) (fun _ _ _ h => h) (.inl ⟨rfl, fun w' hSw => ?h9_8_9⟩) hS ?_
    case h9_8_9 => (go_simp; first | done | with_reducible rfl)
    simp only [Act.put, List.setIfInBounds_toArray, List.set_cons_zero, List.set_cons_succ]
    refine wpAnyH_ready (rs := [9]) (by kernel_rfl) (by simp) (AllReadyH.cons rfl (fun K hK => ?_) AllReadyH.nil)
    go_simp
    refine hK.out _ _ ⟨celO c0 (by simp), celO c1 (by simp)⟩ (fun hS => ?_)
    clear hK
    refine wpAnyH_done (by kernel_rfl) ?_ _
    have k1 : (w1.setCell ⟨w.heap.size, 2 + j * 10 + i, none⟩ (.int .u8 k)).drew.heap[w.heap.size]? = some (.cells (Lw.put L (j * 10 + i) k).cells 26 (0, 0)) := by refine blkD ?_; rw [blkS h1, Nat.add_assoc, L.set2 (by omega)]; rfl
    have k3 := blkD (blkO h3 (p := ⟨w.heap.size, 2 + j * 10 + i, none⟩) (by first | (simp; done) | (simp; omega)) (u := .int .u8 k))
    have kB := belD (belS hB1 (p := ⟨w.heap.size, 2 + j * 10 + i, none⟩) (Nat.le_refl _) (v := .int .u8 k))
    clear c0 c1 c2 f2 h1 h1' h2 h3 hB1 hS
    generalize (w1.setCell ⟨w.heap.size, 2 + j * 10 + i, none⟩ (.int .u8 k)).drew = w3 at *
    go_wp2_with (first | (refine loadRow 33 rfl rfl rfl rfl Try.underlying26 rfl k1 (by rw [Lw.size]; exact size28) ?_) | (refine storeRow rfl rfl rfl rfl rfl k3 (by rw [Lw.size]; exact size28) (by simp only [Lw.size]) (Lw.one _) ?_; intro w4 j1 j2 j3 j4))
    exact retRowTmp rfl rfl rfl j1 Try.underlying26 rfl (by rw [Lw.size]; exact size28) rfl ⟨rfl, belT kB j3 (by omega)⟩
  · rw [e1, e2]
    have HC := fun (g c : Nat) (w : World) hg => cells1 L hL x y g c w hg
    obtain ⟨c0, hc0⟩ : ∃ c0, c0 = codeB L (hasB L x y) := ⟨_, rfl⟩
    rw [← hc0] at HC hc ⊢
    have HC := Lib.hid HC
    have hc1 : (c0 == 0) = false := by simpa using hc
    have hc2 : (c0 != 0) = true := by simpa using hc
    clear e1 e2 hc0 hc
    go_enter Try.func17, Try.ntmps17
    go_wp2_with (first | (refine loadRow 9 rfl rfl rfl rfl Try.underlying26 rfl (blkA (blkA (blkN rfl))) (by rw [Lw.size]; exact size28) ?_) | (go_at_call 27; refine (HC.out _ _ _ (blkN (by simp))).mono ?_; rintro e w1 ⟨rfl, hb⟩; have hB1 := belW (belA (belA (belA (belA (Below.refl w.heap.size w))))) hb; have h3 : w1.heap[w.heap.size + 1 + 1]? = some (.cells (Lw.cells ⟨0, 0, fun _ => 0⟩) 26 (0, 0)) := blkB hb (blkA (blkN (by simp))) (by first | (simp; done) | (simp; omega))) | (refine storeRow rfl rfl rfl rfl rfl h3 (by rw [Lw.size]; exact size28) rfl (Lw.one _) ?_; intro w4 j1 j2 j3 j4))
    exact retRowTmp rfl rfl rfl j1 Try.underlying26 rfl (by rw [Lw.size]; exact size28) rfl ⟨rfl, belT hB1 j3 (by omega)⟩
  · rw [e1, e2]
    have HC := fun (g c : Nat) (w : World) hg => hc ▸ cells1 L hL x y g c w hg
    have HC := Lib.hid HC
    clear e1 e2 hc
    go_enter Try.func17, Try.ntmps17
    go_wp2_with (first | (refine loadRow 9 rfl rfl rfl rfl Try.underlying26 rfl (blkA (blkA (blkN rfl))) (by rw [Lw.size]; exact size28) ?_) | (go_at_call 27; refine (HC.out _ _ _ (blkN (by simp))).mono ?_; rintro e w1 ⟨rfl, hb⟩; have hB1 := belW (belA (belA (belA (belA (Below.refl w.heap.size w))))) hb; have h3 : w1.heap[w.heap.size + 1 + 1]? = some (.cells (Lw.cells ⟨0, 0, fun _ => 0⟩) 26 (0, 0)) := blkB hb (blkA (blkN (by simp))) (by first | (simp; done) | (simp; omega))) | (go_at_call 19; refine (within _ _ _ false hk _).mono ?_; rintro e w2 ⟨rfl, rfl⟩) | (refine storeRow rfl rfl rfl rfl rfl h3 (by rw [Lw.size]; exact size28) rfl (Lw.one _) ?_; intro w4 j1 j2 j3 j4))
    exact retRowTmp rfl rfl rfl j1 Try.underlying26 rfl (by rw [Lw.size]; exact size28) rfl ⟨rfl, belT hB1 j3 (by omega)⟩

set_option maxHeartbeats 1000000 in
theorem sKind (n : Int) (r : Bool) (hr : inB n 0 3 = r) (w : World) : Calls Try.prog 29 #[.int .i64 n] w fun e w' => e = .returned (.bool r) ∧ w = w' := by
  go_enter Try.func29, Try.ntmps29
  go_wp2_with (first | (go_at_call 30; refine (sIn _ _ _ _).mono ?_; rintro e w2 ⟨rfl, rfl⟩))
  go_ret
  exact ⟨by rw [← hr]; rfl, rfl⟩

set_option maxRecDepth 100000 in
set_option maxHeartbeats 2000000 in
theorem sSetCell (L : Lw) (hL : Lw.Ok L) (x y k : Int) (hx0 : -128 ≤ x) (hx1 : x ≤ 127) (hy0 : -128 ≤ y) (hy1 : y ≤ 127) (w : World) :
    Calls Try.prog 16 #[.agg L.cells, .agg #[.int .i8 x, .int .i8 y], .int .i64 k] w fun e w' => e = .returned (.tuple #[.agg (setL L x y k).cells, .int .i64 (setC L x y k)]) ∧ Below w.heap.size w w' := by
  obtain ⟨hz, _⟩ := zero_of_info zeroLw
  have HI := fun (g : Nat) (t : TypeId) (w : World) hg => sIs L hL x y g t hx0 hx1 hy0 hy1 w hg
  have HT := fun (f : Bool) (g : Nat) (t : TypeId) (w : World) hg => sTold L hL f g t w hg
  have HT := Lib.hid HT
  rcases twoways (hasB L x y && inB k 0 3) with hb | hb
  · have e1 : setL L x y k = ⟨0, 0, fun _ => 0⟩ := by simp [setL, hb]
    have e2 : setC L x y k = codeB L false := by simp only [setC, hb]
    have hc : (codeB L false != 0) = true := by unfold codeB; cases validB L <;> rfl
    rw [e1, e2]
    obtain ⟨c0, hc0⟩ : ∃ c0, c0 = codeB L false := ⟨_, rfl⟩
    rw [← hc0] at hc ⊢
    have HC0 := Lib.hid hc0
    clear e1 e2 hc0
    rcases twoways (hasB L x y) with hh | hh
    · rw [hh] at HI
      have HI := Lib.hid HI
      clear hb
      go_enter Try.func16, Try.ntmps16
      go_wp2_with (first | (go_at_call 25; refine (HI.out w.heap.size _ _ (blkA (blkA (blkN rfl)))).mono ?_; rintro e w1 ⟨rfl, hb⟩; have hB1 := belW (belA (belA (belA (Below.refl w.heap.size w)))) hb; have h1 : w1.heap[w.heap.size]? = some (.cells L.cells 26 (0, 0)) := blkB hb (blkA (blkA (blkN rfl))) (by first | (simp; done) | (simp; omega)); have h3 : w1.heap[w.heap.size + 1 + 1]? = some (.cells (Lw.cells ⟨0, 0, fun _ => 0⟩) 26 (0, 0)) := blkB hb (blkN (by simp)) (by first | (simp; done) | (simp; omega))) | (go_at_call 24; refine (HT.out false w.heap.size _ _ h1).mono ?_; rw [← HC0.out]; rintro e w2 ⟨rfl, hb2⟩; have hB2 := belW hB1 hb2; have h4 := blkB hb2 h3 (blkLt h3)) | (refine storeRow rfl rfl rfl rfl rfl h4 (by rw [Lw.size]; exact size28) rfl (Lw.one _) ?_; intro w4 j1 j2 j3 j4))
      exact retRowTmp rfl rfl rfl j1 Try.underlying26 rfl (by rw [Lw.size]; exact size28) rfl ⟨rfl, belT hB2 j3 (by omega)⟩
    · have hk : inB k 0 3 = false := by simpa [hh] using hb
      rw [hh] at HI
      have HI := Lib.hid HI
      clear hb
      go_enter Try.func16, Try.ntmps16
      go_wp2_with (first | (go_at_call 25; refine (HI.out w.heap.size _ _ (blkA (blkA (blkN rfl)))).mono ?_; rintro e w1 ⟨rfl, hb⟩; have hB1 := belW (belA (belA (belA (Below.refl w.heap.size w)))) hb; have h1 : w1.heap[w.heap.size]? = some (.cells L.cells 26 (0, 0)) := blkB hb (blkA (blkA (blkN rfl))) (by first | (simp; done) | (simp; omega)); have h3 : w1.heap[w.heap.size + 1 + 1]? = some (.cells (Lw.cells ⟨0, 0, fun _ => 0⟩) 26 (0, 0)) := blkB hb (blkN (by simp)) (by first | (simp; done) | (simp; omega))) | (go_at_call 29; refine (sKind _ false hk _).mono ?_; rintro e w5 ⟨rfl, rfl⟩) | (go_at_call 24; refine (HT.out false w.heap.size _ _ h1).mono ?_; rw [← HC0.out]; rintro e w2 ⟨rfl, hb2⟩; have hB2 := belW hB1 hb2; have h4 := blkB hb2 h3 (blkLt h3)) | (refine storeRow rfl rfl rfl rfl rfl h4 (by rw [Lw.size]; exact size28) rfl (Lw.one _) ?_; intro w4 j1 j2 j3 j4))
      exact retRowTmp rfl rfl rfl j1 Try.underlying26 rfl (by rw [Lw.size]; exact size28) rfl ⟨rfl, belT hB2 j3 (by omega)⟩
  · have hh : hasB L x y = true := by cases h : hasB L x y <;> simp_all
    have hk : inB k 0 3 = true := by cases h : inB k 0 3 <;> simp_all
    rw [hh] at HI
    have HI := Lib.hid HI
    rcases twoways (validB L) with hv | hv
    · have e1 : setL L x y k = ⟨0, 0, fun _ => 0⟩ := by simp [setL, hv]
      have e2 : setC L x y k = 1 := by simp [setC, codeB, hv]
      have hc : codeB L true = 1 := by simp [codeB, hv]
      have HC := Lib.hid hc
      rw [e1, e2]
      clear e1 e2 hc hb
      go_enter Try.func16, Try.ntmps16
      go_wp2_with (first | (go_at_call 25; refine (HI.out w.heap.size _ _ (blkA (blkA (blkN rfl)))).mono ?_; rintro e w1 ⟨rfl, hb⟩; have hB1 := belW (belA (belA (belA (Below.refl w.heap.size w)))) hb; have h1 : w1.heap[w.heap.size]? = some (.cells L.cells 26 (0, 0)) := blkB hb (blkA (blkA (blkN rfl))) (by first | (simp; done) | (simp; omega)); have h3 : w1.heap[w.heap.size + 1 + 1]? = some (.cells (Lw.cells ⟨0, 0, fun _ => 0⟩) 26 (0, 0)) := blkB hb (blkN (by simp)) (by first | (simp; done) | (simp; omega))) | (go_at_call 29; refine (sKind _ true hk _).mono ?_; rintro e w5 ⟨rfl, rfl⟩) | (go_at_call 24; refine (HT.out true w.heap.size _ _ h1).mono ?_; rw [HC.out]; rintro e w2 ⟨rfl, hb2⟩; have hB2 := belW hB1 hb2; have h4 := blkB hb2 h3 (blkLt h3)) | (refine storeRow rfl rfl rfl rfl rfl h4 (by rw [Lw.size]; exact size28) rfl (Lw.one _) ?_; intro w4 j1 j2 j3 j4))
      exact retRowTmp rfl rfl rfl j1 Try.underlying26 rfl (by rw [Lw.size]; exact size28) rfl ⟨rfl, belT hB2 j3 (by omega)⟩
    · obtain ⟨i, j, rfl, rfl, hi, hj⟩ := cell_in hv hh
      have e1 : setL L i j k = Lw.put L (j * 10 + i) k := by simp [setL, hv, hb]
      have e2 : setC L i j k = 0 := by simp [setC, codeB, hv, hb]
      have hc : codeB L true = 0 := by simp [codeB, hv]
      have HC := Lib.hid hc
      rw [e1, e2]
      clear e1 e2 hc hb hv hh
      go_enter Try.func16, Try.ntmps16
      go_wp2_with (first | (go_at_call 25; refine (HI.out w.heap.size _ _ (blkA (blkA (blkN rfl)))).mono ?_; rintro e w0 ⟨rfl, hb⟩; have hB0 := belW (belA (belA (belA (Below.refl w.heap.size w)))) hb; have g1 : w0.heap[w.heap.size]? = some (.cells L.cells 26 (0, 0)) := blkB hb (blkA (blkA (blkN rfl))) (by first | (simp; done) | (simp; omega)); have g2 : w0.heap[w.heap.size + 1]? = some (.cells #[.int .i8 i, .int .i8 j] 39 (0, 0)) := blkB hb (blkA (blkN (by simp))) (by first | (simp; done) | (simp; omega)); have g3 : w0.heap[w.heap.size + 1 + 1]? = some (.cells (Lw.cells ⟨0, 0, fun _ => 0⟩) 26 (0, 0)) := blkB hb (blkN (by simp)) (by first | (simp; done) | (simp; omega))) | (go_at_call 29; refine (sKind _ true hk _).mono ?_; rintro e w5 ⟨rfl, rfl⟩) | (go_at_call 24; refine (HT.out true w.heap.size _ _ g1).mono ?_; rw [HC.out]; rintro e w1 ⟨rfl, hb2⟩; have hB1 := belW hB0 hb2; have h1 := blkB hb2 g1 (blkLt g1); have h2 := blkB hb2 g2 (blkLt g2); have h3 := blkB hb2 g3 (blkLt g3)))
      clear g1 g2 g3 hB0 hb2
      have h1' : w1.drew.heap[w.heap.size]? = some (.cells L.cells 26 (0, 0)) := blkD h1
      have c0 : w1.drew.cell? ⟨w.heap.size + 1, 0, none⟩ = some (.int .i8 i) := (blkC (blkD h2) 0).trans rfl
      have c1 : w1.drew.cell? ⟨w.heap.size + 1, 1, none⟩ = some (.int .i8 j) := (blkC (blkD h2) 1).trans rfl
      have c2 : w1.drew.cell? ⟨w.heap.size, 2 + j * 10 + i, none⟩ = some (.int .u8 (L.c (j * 10 + i))) := (blkC h1' _).trans (L.getYX (by omega))
      have f2 := blkF h1'
      have x1 : IntKind.u8.wrap k = k := by simp only [inB, Bool.and_eq_true, decide_eq_true_eq] at hk; exact IntWalk.u8_in _ (by omega)
      have b1 : (0 : Int) ≤ i := by omega
      have b2 : (i : Int) < 10 := by omega
      have b3 : (0 : Int) ≤ j := by omega
      have b4 : (j : Int) < 10 := by omega
      clear hb
      refine wp_region_held_drew (S := fun w' => w'.cell? ⟨w.heap.size + 1, 0, none⟩ = some (.int .i8 i) ∧ w'.cell? ⟨w.heap.size + 1, 1, none⟩ = some (.int .i8 j)) (by kernel_rfl) ⟨c0, c1⟩ (fun hS => ?_)
      refine takeAny 0 (dN := some 20) (v := ?v10_0_1) rfl rfl (by kernel_rfl) (by kernel_rfl) (by kernel_rfl) (fun _ _ _ h => h) (.inl ⟨rfl, fun w' hSw => ?h10_0_1⟩) hS ?_
      case h10_0_1 => (go_simp; first | done | with_reducible rfl)
      simp only [Act.put, List.setIfInBounds_toArray, List.set_cons_zero, List.set_cons_succ]
      refine takeAny 1 (dN := some 21) (v := ?v10_1_2) rfl rfl (by kernel_rfl) (by kernel_rfl) (by kernel_rfl) (fun _ _ _ h => h) (.inl ⟨rfl, fun w' hSw => ?h10_1_2⟩) hS ?_
      case h10_1_2 => (go_simp; first | done | with_reducible rfl)
      simp only [Act.put, List.setIfInBounds_toArray, List.set_cons_zero, List.set_cons_succ]
      refine takeAny 2 (dN := some 22) (v := ?v10_2_3) rfl rfl (by kernel_rfl) (by kernel_rfl) (by kernel_rfl) (fun _ _ _ h => h) (.inl ⟨rfl, fun w' hSw => ?h10_2_3⟩) hS ?_
      case h10_2_3 => (go_simp; first | done | with_reducible rfl)
      simp only [Act.put, List.setIfInBounds_toArray, List.set_cons_zero, List.set_cons_succ]
      refine takeAny 3 (dN := some 23) (v := ?v10_3_4) rfl rfl (by kernel_rfl) (by kernel_rfl) (by kernel_rfl) (fun _ _ _ h => h) (.inl ⟨rfl, fun w' hSw => ?h10_3_4⟩) hS ?_
      case h10_3_4 => (go_simp; first | done | with_reducible rfl)
      simp only [Act.put, List.setIfInBounds_toArray, List.set_cons_zero, List.set_cons_succ]
      refine takeAny 4 (dN := some 24) (v := ?v10_4_5) rfl rfl (by kernel_rfl) (by kernel_rfl) (by kernel_rfl) (fun _ _ _ h => h) (.inl ⟨rfl, fun w' hSw => ?h10_4_5⟩) hS ?_
      case h10_4_5 => (go_simp; first | done | with_reducible rfl)
      simp only [Act.put, List.setIfInBounds_toArray, List.set_cons_zero, List.set_cons_succ]
      refine takeAny 5 (dN := some 25) (v := ?v10_5_6) rfl rfl (by kernel_rfl) (by kernel_rfl) (by kernel_rfl) (fun _ _ _ h => h) (.inl ⟨rfl, fun w' hSw => ?h10_5_6⟩) hS ?_
      case h10_5_6 => (go_simp; first | done | with_reducible rfl)
      simp only [Act.put, List.setIfInBounds_toArray, List.set_cons_zero, List.set_cons_succ]
      refine takeAny 6 (dN := some 26) (v := ?v10_6_7) rfl rfl (by kernel_rfl) (by kernel_rfl) (by kernel_rfl) (fun _ _ _ h => h) (.inl ⟨rfl, fun w' hSw => ?h10_6_7⟩) hS ?_
      case h10_6_7 => (go_simp; first | done | with_reducible rfl)
      simp only [Act.put, List.setIfInBounds_toArray, List.set_cons_zero, List.set_cons_succ]
      refine takeAny 7 (dN := some 27) (v := ?v10_7_8) rfl rfl (by kernel_rfl) (by kernel_rfl) (by kernel_rfl) (fun _ _ _ h => h) (.inl ⟨rfl, fun w' hSw => ?h10_7_8⟩) hS ?_
      case h10_7_8 => (go_simp; first | done | with_reducible rfl)
      simp only [Act.put, List.setIfInBounds_toArray, List.set_cons_zero, List.set_cons_succ]
      refine takeAny 8 (dN := some 28) (v := ?v10_8_9) rfl rfl (by kernel_rfl) (by kernel_rfl) (by kernel_rfl) (fun _ _ _ h => h) (.inl ⟨rfl, fun w' hSw => ?h10_8_9⟩) hS ?_
      case h10_8_9 => (go_simp; first | done | with_reducible rfl)
      simp only [Act.put, List.setIfInBounds_toArray, List.set_cons_zero, List.set_cons_succ]
      refine wpAnyH_ready (rs := [9]) (by kernel_rfl) (by simp) (AllReadyH.cons rfl (fun K hK => ?_) AllReadyH.nil)
      go_simp
      refine hK.out _ _ ⟨celO c0 (by simp), celO c1 (by simp)⟩ (fun hS => ?_)
      clear hK
      refine wpAnyH_done (by kernel_rfl) ?_ _
      have k1 : (w1.setCell ⟨w.heap.size, 2 + j * 10 + i, none⟩ (.int .u8 k)).drew.heap[w.heap.size]? = some (.cells (Lw.put L (j * 10 + i) k).cells 26 (0, 0)) := by refine blkD ?_; rw [blkS h1, Nat.add_assoc, L.set2 (by omega)]; rfl
      have k3 := blkD (blkO h3 (p := ⟨w.heap.size, 2 + j * 10 + i, none⟩) (by first | (simp; done) | (simp; omega)) (u := .int .u8 k))
      have kB := belD (belS hB1 (p := ⟨w.heap.size, 2 + j * 10 + i, none⟩) (Nat.le_refl _) (v := .int .u8 k))
      clear c0 c1 c2 f2 h1 h1' h2 h3 hB1 hS
      generalize (w1.setCell ⟨w.heap.size, 2 + j * 10 + i, none⟩ (.int .u8 k)).drew = w3 at *
      go_wp2_with (first | (refine loadRow 29 rfl rfl rfl rfl Try.underlying26 rfl k1 (by rw [Lw.size]; exact size28) ?_) | (refine storeRow rfl rfl rfl rfl rfl k3 (by rw [Lw.size]; exact size28) (by simp only [Lw.size]) (Lw.one _) ?_; intro w4 j1 j2 j3 j4))
      exact retRowTmp rfl rfl rfl j1 Try.underlying26 rfl (by rw [Lw.size]; exact size28) rfl ⟨rfl, belT kB j3 (by omega)⟩

set_option maxRecDepth 100000 in
set_option maxHeartbeats 2000000 in
theorem lawSetCell (L : Lw) (hL : Lw.Ok L) (x y k : Int) (hx : -128 ≤ x ∧ x ≤ 127) (hy : -128 ≤ y ∧ y ≤ 127) (w : World) :
    Calls Try.prog 6 #[.agg L.cells, .agg #[.int .i8 x, .int .i8 y], .int .i64 k] w fun e w' => e = .returned (.bool true) ∧ Below w.heap.size w w' := by
  obtain ⟨hz, _⟩ := zero_of_info zeroLw
  go_enter Try.func6, Try.ntmps6
  go_upto_region 1 with fail
  go_cut [7, 8] (fun p c wr => ∃ g, p = .pointer (some ⟨g, 0, none⟩) ∧ c = .int .i64 (setC L x y k) ∧ w.heap.size ≠ g ∧ w.heap.size + 1 ≠ g ∧ Below w.heap.size w wr ∧ wr.heap[w.heap.size]? = some (.cells L.cells 31 (0, 0)) ∧ wr.heap[w.heap.size + 1]? = some (.cells #[.int .i8 x, .int .i8 y] 36 (0, 0)) ∧ wr.heap[g]? = some (.cells (setL L x y k).cells 26 (0, 0)))
  case first =>
    refine wp_region_held_drew (S := fun w' => Below w.heap.size w w' ∧ w'.heap[w.heap.size]? = some (.cells L.cells 31 (0, 0)) ∧ w'.heap[w.heap.size + 1]? = some (.cells #[.int .i8 x, .int .i8 y] 36 (0, 0))) (by kernel_rfl) ⟨belD (belA (belA (Below.refl _ _))), blkD (blkA (blkN rfl)), blkD (blkN (by simp))⟩ (fun hS => ?_)
    refine takeRow 0 rfl rfl (by kernel_rfl) (by kernel_rfl) (by kernel_rfl) (fun _ _ _ h => h) rfl rfl rfl Try.underlying31 rfl (fun w h => h.2.1) (by rw [Lw.size]; kernel_rfl) hS ?_
    simp only [Act.put, List.setIfInBounds_toArray, List.set_cons_zero, List.set_cons_succ]
    refine takeRow 2 rfl rfl (by kernel_rfl) (by kernel_rfl) (by kernel_rfl) (fun _ _ _ h => h) rfl rfl rfl Try.underlying36 rfl (fun w h => h.2.2) (by kernel_rfl) hS ?_
    simp only [Act.put, List.setIfInBounds_toArray, List.set_cons_zero, List.set_cons_succ]
    refine takeAny 4 (dN := some 16) (v := ?v11_4_3) rfl rfl (by kernel_rfl) (by kernel_rfl) (by kernel_rfl) (fun _ _ _ h => h) (.inl ⟨rfl, fun w' hSw => ?h11_4_3⟩) hS ?_
    case h11_4_3 => (go_simp; first | done | with_reducible rfl)
    simp only [Act.put, List.setIfInBounds_toArray, List.set_cons_zero, List.set_cons_succ]
    refine wpAnyH_ready (rs := [1, 9]) (by kernel_rfl) (by simp) (AllReadyH.cons rfl (fun K hK => ?_) (AllReadyH.cons rfl (fun K hK => ?_) AllReadyH.nil))
    · go_simp
      go_at_call 11
      refine (toLawn _ _).mono ?_
      rintro e w1_1 ⟨rfl, hb⟩
      refine hK.out _ _ ⟨belW hS.1 hb, blkB hb hS.2.1 (blkLt hS.2.1), blkB hb hS.2.2 (blkLt hS.2.2)⟩ (fun hS => ?_)
      clear hb hK
      refine wpAnyH_ready (rs := [3, 9]) (by kernel_rfl) (by simp) (AllReadyH.cons rfl (fun K hK => ?_) (AllReadyH.cons rfl (fun K hK => ?_) AllReadyH.nil))
      · go_simp
        go_at_call 14
        refine (toCell _ _ _).mono ?_
        rintro e w1_3 ⟨rfl, hb⟩
        refine hK.out _ _ ⟨belW hS.1 hb, blkB hb hS.2.1 (blkLt hS.2.1), blkB hb hS.2.2 (blkLt hS.2.2)⟩ (fun hS => ?_)
        clear hb hK
        refine wpAnyH_ready (rs := [5, 9]) (by kernel_rfl) (by simp) (AllReadyH.cons rfl (fun K hK => ?_) (AllReadyH.cons rfl (fun K hK => ?_) AllReadyH.nil))
        · go_simp
          go_at_call 16
          refine (sSetCell L hL x y k hx.1 hx.2 hy.1 hy.2 _).mono ?_
          rintro e w1_5 ⟨rfl, hb⟩
          refine hK.out _ _ ⟨belW hS.1 hb, blkB hb hS.2.1 (blkLt hS.2.1), blkB hb hS.2.2 (blkLt hS.2.2)⟩ (fun hS => ?_)
          clear hb hK
          refine takeAny 6 (dN := some 11) (v := ?v11_6_7) rfl rfl (by kernel_rfl) (by kernel_rfl) (by kernel_rfl) (fun _ _ _ h => h) (.inl ⟨rfl, fun w' hSw => ?h11_6_7⟩) hS ?_
          case h11_6_7 => (go_simp; first | done | with_reducible rfl)
          simp only [Act.put, List.setIfInBounds_toArray, List.set_cons_zero, List.set_cons_succ]
          refine takeAny 7 (dN := some 18) (v := ?v11_7_8) rfl rfl (by kernel_rfl) (by kernel_rfl) (by kernel_rfl) (fun _ _ _ h => h) (.inl ⟨rfl, fun w' hSw => ?h11_7_8⟩) hS ?_
          case h11_7_8 => (go_simp; first | done | with_reducible rfl)
          simp only [Act.put, List.setIfInBounds_toArray, List.set_cons_zero, List.set_cons_succ]
          refine takeAny 8 (dN := some 19) (v := ?v11_8_9) rfl rfl (by kernel_rfl) (by kernel_rfl) (by kernel_rfl) (fun _ _ _ h => h) (.inl ⟨rfl, fun w' hSw => ?h11_8_9⟩) hS ?_
          case h11_8_9 => (go_simp; first | done | with_reducible rfl)
          simp only [Act.put, List.setIfInBounds_toArray, List.set_cons_zero, List.set_cons_succ]
          refine wpAnyH_ready (rs := [9]) (by kernel_rfl) (by simp) (AllReadyH.cons rfl (fun K hK => ?_) AllReadyH.nil)
          refine allocStep rfl rfl rfl hz ?_
          intro g9 w1_9 hG9 hlt hN9 hb
          have hne9_1 := Nat.ne_of_lt (Nat.lt_of_lt_of_le (blkLt hS.2.1) hG9)
          have hne9_2 := Nat.ne_of_lt (Nat.lt_of_lt_of_le (blkLt hS.2.2) hG9)
          have hG9 := Nat.le_trans hS.1.size hG9
          simp only [Act.put, List.setIfInBounds_toArray, List.set_cons_zero, List.set_cons_succ]
          refine hK.out _ _ ⟨belW hS.1 hb, blkB hb hS.2.1 (blkLt hS.2.1), blkB hb hS.2.2 (blkLt hS.2.2)⟩ (fun hS => ?_)
          clear hb hK hlt
          refine wpAnyH_ready (rs := [10]) (by kernel_rfl) (by simp) (AllReadyH.cons rfl (fun K hK => ?_) AllReadyH.nil)
          refine storeStep rfl rfl rfl rfl rfl hN9 (by rw [Lw.size]; exact size28) (by simp only [Lw.size]) (Lw.one _) ?_
          intro w1_10 j1 j2 j3 j4
          refine hK.out _ _ ⟨belT hS.1 j3 hG9, (j2 _ hne9_1).trans hS.2.1, (j2 _ hne9_2).trans hS.2.2⟩ (fun hS => ?_)
          have hN9 := j1
          clear j1 j2 j3 j4 hK
          refine takeAny 11 (dN := some 8) (v := ?v11_11_12) rfl rfl (by kernel_rfl) (by kernel_rfl) (by kernel_rfl) (fun _ _ _ h => h) (.inl ⟨rfl, fun w' hSw => ?h11_11_12⟩) hS ?_
          case h11_11_12 => (go_simp; first | done | with_reducible rfl)
          simp only [Act.put, List.setIfInBounds_toArray, List.set_cons_zero, List.set_cons_succ]
          refine wpAnyH_done (by kernel_rfl) ?_ _
          (go_wp2_with fail; go_meet; exact ⟨g9, rfl, rfl, hne9_1, hne9_2, hS.1, hS.2.1, hS.2.2, hN9⟩)
        · refine allocStep rfl rfl rfl hz ?_
          intro g9 w1_9 hG9 hlt hN9 hb
          have hne9_1 := Nat.ne_of_lt (Nat.lt_of_lt_of_le (blkLt hS.2.1) hG9)
          have hne9_2 := Nat.ne_of_lt (Nat.lt_of_lt_of_le (blkLt hS.2.2) hG9)
          have hG9 := Nat.le_trans hS.1.size hG9
          simp only [Act.put, List.setIfInBounds_toArray, List.set_cons_zero, List.set_cons_succ]
          refine hK.out _ _ ⟨belW hS.1 hb, blkB hb hS.2.1 (blkLt hS.2.1), blkB hb hS.2.2 (blkLt hS.2.2)⟩ (fun hS => ?_)
          clear hb hK hlt
          refine wpAnyH_ready (rs := [5]) (by kernel_rfl) (by simp) (AllReadyH.cons rfl (fun K hK => ?_) AllReadyH.nil)
          go_simp
          go_at_call 16
          refine (sSetCell L hL x y k hx.1 hx.2 hy.1 hy.2 _).mono ?_
          rintro e w1_5 ⟨rfl, hb⟩
          have hN9 := blkB hb hN9 (blkLt hN9)
          refine hK.out _ _ ⟨belW hS.1 hb, blkB hb hS.2.1 (blkLt hS.2.1), blkB hb hS.2.2 (blkLt hS.2.2)⟩ (fun hS => ?_)
          clear hb hK
          refine takeAny 6 (dN := some 11) (v := ?v11_6_14) rfl rfl (by kernel_rfl) (by kernel_rfl) (by kernel_rfl) (fun _ _ _ h => h) (.inl ⟨rfl, fun w' hSw => ?h11_6_14⟩) hS ?_
          case h11_6_14 => (go_simp; first | done | with_reducible rfl)
          simp only [Act.put, List.setIfInBounds_toArray, List.set_cons_zero, List.set_cons_succ]
          refine takeAny 7 (dN := some 18) (v := ?v11_7_15) rfl rfl (by kernel_rfl) (by kernel_rfl) (by kernel_rfl) (fun _ _ _ h => h) (.inl ⟨rfl, fun w' hSw => ?h11_7_15⟩) hS ?_
          case h11_7_15 => (go_simp; first | done | with_reducible rfl)
          simp only [Act.put, List.setIfInBounds_toArray, List.set_cons_zero, List.set_cons_succ]
          refine takeAny 8 (dN := some 19) (v := ?v11_8_16) rfl rfl (by kernel_rfl) (by kernel_rfl) (by kernel_rfl) (fun _ _ _ h => h) (.inl ⟨rfl, fun w' hSw => ?h11_8_16⟩) hS ?_
          case h11_8_16 => (go_simp; first | done | with_reducible rfl)
          simp only [Act.put, List.setIfInBounds_toArray, List.set_cons_zero, List.set_cons_succ]
          refine wpAnyH_ready (rs := [10]) (by kernel_rfl) (by simp) (AllReadyH.cons rfl (fun K hK => ?_) AllReadyH.nil)
          refine storeStep rfl rfl rfl rfl rfl hN9 (by rw [Lw.size]; exact size28) (by simp only [Lw.size]) (Lw.one _) ?_
          intro w1_10 j1 j2 j3 j4
          refine hK.out _ _ ⟨belT hS.1 j3 hG9, (j2 _ hne9_1).trans hS.2.1, (j2 _ hne9_2).trans hS.2.2⟩ (fun hS => ?_)
          have hN9 := j1
          clear j1 j2 j3 j4 hK
          refine takeAny 11 (dN := some 8) (v := ?v11_11_18) rfl rfl (by kernel_rfl) (by kernel_rfl) (by kernel_rfl) (fun _ _ _ h => h) (.inl ⟨rfl, fun w' hSw => ?h11_11_18⟩) hS ?_
          case h11_11_18 => (go_simp; first | done | with_reducible rfl)
          simp only [Act.put, List.setIfInBounds_toArray, List.set_cons_zero, List.set_cons_succ]
          refine wpAnyH_done (by kernel_rfl) ?_ _
          (go_wp2_with fail; go_meet; exact ⟨g9, rfl, rfl, hne9_1, hne9_2, hS.1, hS.2.1, hS.2.2, hN9⟩)
      · refine allocStep rfl rfl rfl hz ?_
        intro g9 w1_9 hG9 hlt hN9 hb
        have hne9_1 := Nat.ne_of_lt (Nat.lt_of_lt_of_le (blkLt hS.2.1) hG9)
        have hne9_2 := Nat.ne_of_lt (Nat.lt_of_lt_of_le (blkLt hS.2.2) hG9)
        have hG9 := Nat.le_trans hS.1.size hG9
        simp only [Act.put, List.setIfInBounds_toArray, List.set_cons_zero, List.set_cons_succ]
        refine hK.out _ _ ⟨belW hS.1 hb, blkB hb hS.2.1 (blkLt hS.2.1), blkB hb hS.2.2 (blkLt hS.2.2)⟩ (fun hS => ?_)
        clear hb hK hlt
        refine wpAnyH_ready (rs := [3]) (by kernel_rfl) (by simp) (AllReadyH.cons rfl (fun K hK => ?_) AllReadyH.nil)
        go_simp
        go_at_call 14
        refine (toCell _ _ _).mono ?_
        rintro e w1_3 ⟨rfl, hb⟩
        have hN9 := blkB hb hN9 (blkLt hN9)
        refine hK.out _ _ ⟨belW hS.1 hb, blkB hb hS.2.1 (blkLt hS.2.1), blkB hb hS.2.2 (blkLt hS.2.2)⟩ (fun hS => ?_)
        clear hb hK
        refine wpAnyH_ready (rs := [5]) (by kernel_rfl) (by simp) (AllReadyH.cons rfl (fun K hK => ?_) AllReadyH.nil)
        go_simp
        go_at_call 16
        refine (sSetCell L hL x y k hx.1 hx.2 hy.1 hy.2 _).mono ?_
        rintro e w1_5 ⟨rfl, hb⟩
        have hN9 := blkB hb hN9 (blkLt hN9)
        refine hK.out _ _ ⟨belW hS.1 hb, blkB hb hS.2.1 (blkLt hS.2.1), blkB hb hS.2.2 (blkLt hS.2.2)⟩ (fun hS => ?_)
        clear hb hK
        refine takeAny 6 (dN := some 11) (v := ?v11_6_21) rfl rfl (by kernel_rfl) (by kernel_rfl) (by kernel_rfl) (fun _ _ _ h => h) (.inl ⟨rfl, fun w' hSw => ?h11_6_21⟩) hS ?_
        case h11_6_21 => (go_simp; first | done | with_reducible rfl)
        simp only [Act.put, List.setIfInBounds_toArray, List.set_cons_zero, List.set_cons_succ]
        refine takeAny 7 (dN := some 18) (v := ?v11_7_22) rfl rfl (by kernel_rfl) (by kernel_rfl) (by kernel_rfl) (fun _ _ _ h => h) (.inl ⟨rfl, fun w' hSw => ?h11_7_22⟩) hS ?_
        case h11_7_22 => (go_simp; first | done | with_reducible rfl)
        simp only [Act.put, List.setIfInBounds_toArray, List.set_cons_zero, List.set_cons_succ]
        refine takeAny 8 (dN := some 19) (v := ?v11_8_23) rfl rfl (by kernel_rfl) (by kernel_rfl) (by kernel_rfl) (fun _ _ _ h => h) (.inl ⟨rfl, fun w' hSw => ?h11_8_23⟩) hS ?_
        case h11_8_23 => (go_simp; first | done | with_reducible rfl)
        simp only [Act.put, List.setIfInBounds_toArray, List.set_cons_zero, List.set_cons_succ]
        refine wpAnyH_ready (rs := [10]) (by kernel_rfl) (by simp) (AllReadyH.cons rfl (fun K hK => ?_) AllReadyH.nil)
        refine storeStep rfl rfl rfl rfl rfl hN9 (by rw [Lw.size]; exact size28) (by simp only [Lw.size]) (Lw.one _) ?_
        intro w1_10 j1 j2 j3 j4
        refine hK.out _ _ ⟨belT hS.1 j3 hG9, (j2 _ hne9_1).trans hS.2.1, (j2 _ hne9_2).trans hS.2.2⟩ (fun hS => ?_)
        have hN9 := j1
        clear j1 j2 j3 j4 hK
        refine takeAny 11 (dN := some 8) (v := ?v11_11_25) rfl rfl (by kernel_rfl) (by kernel_rfl) (by kernel_rfl) (fun _ _ _ h => h) (.inl ⟨rfl, fun w' hSw => ?h11_11_25⟩) hS ?_
        case h11_11_25 => (go_simp; first | done | with_reducible rfl)
        simp only [Act.put, List.setIfInBounds_toArray, List.set_cons_zero, List.set_cons_succ]
        refine wpAnyH_done (by kernel_rfl) ?_ _
        (go_wp2_with fail; go_meet; exact ⟨g9, rfl, rfl, hne9_1, hne9_2, hS.1, hS.2.1, hS.2.2, hN9⟩)
    · refine allocStep rfl rfl rfl hz ?_
      intro g9 w1_9 hG9 hlt hN9 hb
      have hne9_1 := Nat.ne_of_lt (Nat.lt_of_lt_of_le (blkLt hS.2.1) hG9)
      have hne9_2 := Nat.ne_of_lt (Nat.lt_of_lt_of_le (blkLt hS.2.2) hG9)
      have hG9 := Nat.le_trans hS.1.size hG9
      simp only [Act.put, List.setIfInBounds_toArray, List.set_cons_zero, List.set_cons_succ]
      refine hK.out _ _ ⟨belW hS.1 hb, blkB hb hS.2.1 (blkLt hS.2.1), blkB hb hS.2.2 (blkLt hS.2.2)⟩ (fun hS => ?_)
      clear hb hK hlt
      refine wpAnyH_ready (rs := [1]) (by kernel_rfl) (by simp) (AllReadyH.cons rfl (fun K hK => ?_) AllReadyH.nil)
      go_simp
      go_at_call 11
      refine (toLawn _ _).mono ?_
      rintro e w1_1 ⟨rfl, hb⟩
      have hN9 := blkB hb hN9 (blkLt hN9)
      refine hK.out _ _ ⟨belW hS.1 hb, blkB hb hS.2.1 (blkLt hS.2.1), blkB hb hS.2.2 (blkLt hS.2.2)⟩ (fun hS => ?_)
      clear hb hK
      refine wpAnyH_ready (rs := [3]) (by kernel_rfl) (by simp) (AllReadyH.cons rfl (fun K hK => ?_) AllReadyH.nil)
      go_simp
      go_at_call 14
      refine (toCell _ _ _).mono ?_
      rintro e w1_3 ⟨rfl, hb⟩
      have hN9 := blkB hb hN9 (blkLt hN9)
      refine hK.out _ _ ⟨belW hS.1 hb, blkB hb hS.2.1 (blkLt hS.2.1), blkB hb hS.2.2 (blkLt hS.2.2)⟩ (fun hS => ?_)
      clear hb hK
      refine wpAnyH_ready (rs := [5]) (by kernel_rfl) (by simp) (AllReadyH.cons rfl (fun K hK => ?_) AllReadyH.nil)
      go_simp
      go_at_call 16
      refine (sSetCell L hL x y k hx.1 hx.2 hy.1 hy.2 _).mono ?_
      rintro e w1_5 ⟨rfl, hb⟩
      have hN9 := blkB hb hN9 (blkLt hN9)
      refine hK.out _ _ ⟨belW hS.1 hb, blkB hb hS.2.1 (blkLt hS.2.1), blkB hb hS.2.2 (blkLt hS.2.2)⟩ (fun hS => ?_)
      clear hb hK
      refine takeAny 6 (dN := some 11) (v := ?v11_6_29) rfl rfl (by kernel_rfl) (by kernel_rfl) (by kernel_rfl) (fun _ _ _ h => h) (.inl ⟨rfl, fun w' hSw => ?h11_6_29⟩) hS ?_
      case h11_6_29 => (go_simp; first | done | with_reducible rfl)
      simp only [Act.put, List.setIfInBounds_toArray, List.set_cons_zero, List.set_cons_succ]
      refine takeAny 7 (dN := some 18) (v := ?v11_7_30) rfl rfl (by kernel_rfl) (by kernel_rfl) (by kernel_rfl) (fun _ _ _ h => h) (.inl ⟨rfl, fun w' hSw => ?h11_7_30⟩) hS ?_
      case h11_7_30 => (go_simp; first | done | with_reducible rfl)
      simp only [Act.put, List.setIfInBounds_toArray, List.set_cons_zero, List.set_cons_succ]
      refine takeAny 8 (dN := some 19) (v := ?v11_8_31) rfl rfl (by kernel_rfl) (by kernel_rfl) (by kernel_rfl) (fun _ _ _ h => h) (.inl ⟨rfl, fun w' hSw => ?h11_8_31⟩) hS ?_
      case h11_8_31 => (go_simp; first | done | with_reducible rfl)
      simp only [Act.put, List.setIfInBounds_toArray, List.set_cons_zero, List.set_cons_succ]
      refine wpAnyH_ready (rs := [10]) (by kernel_rfl) (by simp) (AllReadyH.cons rfl (fun K hK => ?_) AllReadyH.nil)
      refine storeStep rfl rfl rfl rfl rfl hN9 (by rw [Lw.size]; exact size28) (by simp only [Lw.size]) (Lw.one _) ?_
      intro w1_10 j1 j2 j3 j4
      refine hK.out _ _ ⟨belT hS.1 j3 hG9, (j2 _ hne9_1).trans hS.2.1, (j2 _ hne9_2).trans hS.2.2⟩ (fun hS => ?_)
      have hN9 := j1
      clear j1 j2 j3 j4 hK
      refine takeAny 11 (dN := some 8) (v := ?v11_11_33) rfl rfl (by kernel_rfl) (by kernel_rfl) (by kernel_rfl) (fun _ _ _ h => h) (.inl ⟨rfl, fun w' hSw => ?h11_11_33⟩) hS ?_
      case h11_11_33 => (go_simp; first | done | with_reducible rfl)
      simp only [Act.put, List.setIfInBounds_toArray, List.set_cons_zero, List.set_cons_succ]
      refine wpAnyH_done (by kernel_rfl) ?_ _
      (go_wp2_with fail; go_meet; exact ⟨g9, rfl, rfl, hne9_1, hne9_2, hS.1, hS.2.1, hS.2.2, hN9⟩)
  case rest =>
    obtain ⟨g, rfl, rfl, n1, n2, hB, h1, h2, h3⟩ := hcut
    go_upto_region 2 with fail
    go_cut [9, 10] (fun p c wr => ∃ g2, p = .pointer (some ⟨g2, 0, none⟩) ∧ c = .int .i64 (setC L x y k) ∧ Below w.heap.size w wr ∧ wr.heap[g]? = some (.cells (setL L x y k).cells 26 (0, 0)) ∧ wr.heap[g2]? = some (.cells (setL L x y k).cells 26 (0, 0)))
    case first =>
      refine wp_region_held_drew (S := fun w' => Below w.heap.size w w' ∧ w'.heap[w.heap.size]? = some (.cells L.cells 31 (0, 0)) ∧ w'.heap[w.heap.size + 1]? = some (.cells #[.int .i8 x, .int .i8 y] 36 (0, 0)) ∧ w'.heap[g]? = some (.cells (setL L x y k).cells 26 (0, 0))) (by kernel_rfl) ⟨belD hB, blkD h1, blkD h2, blkD h3⟩ (fun hS => ?_)
      refine takeRow 0 rfl rfl (by kernel_rfl) (by kernel_rfl) (by kernel_rfl) (fun _ _ _ h => h) rfl rfl rfl Try.underlying31 rfl (fun w h => h.2.1) (by rw [Lw.size]; kernel_rfl) hS ?_
      simp only [Act.put, List.setIfInBounds_toArray, List.set_cons_zero, List.set_cons_succ]
      refine takeRow 2 rfl rfl (by kernel_rfl) (by kernel_rfl) (by kernel_rfl) (fun _ _ _ h => h) rfl rfl rfl Try.underlying36 rfl (fun w h => h.2.2.1) (by kernel_rfl) hS ?_
      simp only [Act.put, List.setIfInBounds_toArray, List.set_cons_zero, List.set_cons_succ]
      refine takeAny 4 (dN := some 25) (v := ?v12_4_3) rfl rfl (by kernel_rfl) (by kernel_rfl) (by kernel_rfl) (fun _ _ _ h => h) (.inl ⟨rfl, fun w' hSw => ?h12_4_3⟩) hS ?_
      case h12_4_3 => (go_simp; first | done | with_reducible rfl)
      simp only [Act.put, List.setIfInBounds_toArray, List.set_cons_zero, List.set_cons_succ]
      refine wpAnyH_ready (rs := [1, 9]) (by kernel_rfl) (by simp) (AllReadyH.cons rfl (fun K hK => ?_) (AllReadyH.cons rfl (fun K hK => ?_) AllReadyH.nil))
      · go_simp
        go_at_call 11
        refine (toLawn _ _).mono ?_
        rintro e w2_1 ⟨rfl, hb⟩
        refine hK.out _ _ ⟨belW hS.1 hb, blkB hb hS.2.1 (blkLt hS.2.1), blkB hb hS.2.2.1 (blkLt hS.2.2.1), blkB hb hS.2.2.2 (blkLt hS.2.2.2)⟩ (fun hS => ?_)
        clear hb hK
        refine wpAnyH_ready (rs := [3, 9]) (by kernel_rfl) (by simp) (AllReadyH.cons rfl (fun K hK => ?_) (AllReadyH.cons rfl (fun K hK => ?_) AllReadyH.nil))
        · go_simp
          go_at_call 14
          refine (toCell _ _ _).mono ?_
          rintro e w2_3 ⟨rfl, hb⟩
          refine hK.out _ _ ⟨belW hS.1 hb, blkB hb hS.2.1 (blkLt hS.2.1), blkB hb hS.2.2.1 (blkLt hS.2.2.1), blkB hb hS.2.2.2 (blkLt hS.2.2.2)⟩ (fun hS => ?_)
          clear hb hK
          refine wpAnyH_ready (rs := [5, 9]) (by kernel_rfl) (by simp) (AllReadyH.cons rfl (fun K hK => ?_) (AllReadyH.cons rfl (fun K hK => ?_) AllReadyH.nil))
          · go_simp
            go_at_call 17
            refine (setCell L hL x y k _).mono ?_
            rintro e w2_5 ⟨rfl, hb⟩
            refine hK.out _ _ ⟨belW hS.1 hb, blkB hb hS.2.1 (blkLt hS.2.1), blkB hb hS.2.2.1 (blkLt hS.2.2.1), blkB hb hS.2.2.2 (blkLt hS.2.2.2)⟩ (fun hS => ?_)
            clear hb hK
            refine takeAny 6 (dN := some 20) (v := ?v12_6_7) rfl rfl (by kernel_rfl) (by kernel_rfl) (by kernel_rfl) (fun _ _ _ h => h) (.inl ⟨rfl, fun w' hSw => ?h12_6_7⟩) hS ?_
            case h12_6_7 => (go_simp; first | done | with_reducible rfl)
            simp only [Act.put, List.setIfInBounds_toArray, List.set_cons_zero, List.set_cons_succ]
            refine takeAny 7 (dN := some 27) (v := ?v12_7_8) rfl rfl (by kernel_rfl) (by kernel_rfl) (by kernel_rfl) (fun _ _ _ h => h) (.inl ⟨rfl, fun w' hSw => ?h12_7_8⟩) hS ?_
            case h12_7_8 => (go_simp; first | done | with_reducible rfl)
            simp only [Act.put, List.setIfInBounds_toArray, List.set_cons_zero, List.set_cons_succ]
            refine takeAny 8 (dN := some 28) (v := ?v12_8_9) rfl rfl (by kernel_rfl) (by kernel_rfl) (by kernel_rfl) (fun _ _ _ h => h) (.inl ⟨rfl, fun w' hSw => ?h12_8_9⟩) hS ?_
            case h12_8_9 => (go_simp; first | done | with_reducible rfl)
            simp only [Act.put, List.setIfInBounds_toArray, List.set_cons_zero, List.set_cons_succ]
            refine wpAnyH_ready (rs := [9]) (by kernel_rfl) (by simp) (AllReadyH.cons rfl (fun K hK => ?_) AllReadyH.nil)
            refine allocStep rfl rfl rfl hz ?_
            intro g9 w2_9 hG9 hlt hN9 hb
            have hne9_1 := Nat.ne_of_lt (Nat.lt_of_lt_of_le (blkLt hS.2.1) hG9)
            have hne9_2 := Nat.ne_of_lt (Nat.lt_of_lt_of_le (blkLt hS.2.2.1) hG9)
            have hne9_3 := Nat.ne_of_lt (Nat.lt_of_lt_of_le (blkLt hS.2.2.2) hG9)
            have hG9 := Nat.le_trans hS.1.size hG9
            simp only [Act.put, List.setIfInBounds_toArray, List.set_cons_zero, List.set_cons_succ]
            refine hK.out _ _ ⟨belW hS.1 hb, blkB hb hS.2.1 (blkLt hS.2.1), blkB hb hS.2.2.1 (blkLt hS.2.2.1), blkB hb hS.2.2.2 (blkLt hS.2.2.2)⟩ (fun hS => ?_)
            clear hb hK hlt
            refine wpAnyH_ready (rs := [10]) (by kernel_rfl) (by simp) (AllReadyH.cons rfl (fun K hK => ?_) AllReadyH.nil)
            refine storeStep rfl rfl rfl rfl rfl hN9 (by rw [Lw.size]; exact size28) (by simp only [Lw.size]) (Lw.one _) ?_
            intro w2_10 j1 j2 j3 j4
            refine hK.out _ _ ⟨belT hS.1 j3 hG9, (j2 _ hne9_1).trans hS.2.1, (j2 _ hne9_2).trans hS.2.2.1, (j2 _ hne9_3).trans hS.2.2.2⟩ (fun hS => ?_)
            have hN9 := j1
            clear j1 j2 j3 j4 hK
            refine takeAny 11 (dN := some 10) (v := ?v12_11_12) rfl rfl (by kernel_rfl) (by kernel_rfl) (by kernel_rfl) (fun _ _ _ h => h) (.inl ⟨rfl, fun w' hSw => ?h12_11_12⟩) hS ?_
            case h12_11_12 => (go_simp; first | done | with_reducible rfl)
            simp only [Act.put, List.setIfInBounds_toArray, List.set_cons_zero, List.set_cons_succ]
            refine wpAnyH_done (by kernel_rfl) ?_ _
            (go_wp2_with fail; go_meet; exact ⟨g9, rfl, rfl, hS.1, hS.2.2.2, hN9⟩)
          · refine allocStep rfl rfl rfl hz ?_
            intro g9 w2_9 hG9 hlt hN9 hb
            have hne9_1 := Nat.ne_of_lt (Nat.lt_of_lt_of_le (blkLt hS.2.1) hG9)
            have hne9_2 := Nat.ne_of_lt (Nat.lt_of_lt_of_le (blkLt hS.2.2.1) hG9)
            have hne9_3 := Nat.ne_of_lt (Nat.lt_of_lt_of_le (blkLt hS.2.2.2) hG9)
            have hG9 := Nat.le_trans hS.1.size hG9
            simp only [Act.put, List.setIfInBounds_toArray, List.set_cons_zero, List.set_cons_succ]
            refine hK.out _ _ ⟨belW hS.1 hb, blkB hb hS.2.1 (blkLt hS.2.1), blkB hb hS.2.2.1 (blkLt hS.2.2.1), blkB hb hS.2.2.2 (blkLt hS.2.2.2)⟩ (fun hS => ?_)
            clear hb hK hlt
            refine wpAnyH_ready (rs := [5]) (by kernel_rfl) (by simp) (AllReadyH.cons rfl (fun K hK => ?_) AllReadyH.nil)
            go_simp
            go_at_call 17
            refine (setCell L hL x y k _).mono ?_
            rintro e w2_5 ⟨rfl, hb⟩
            have hN9 := blkB hb hN9 (blkLt hN9)
            refine hK.out _ _ ⟨belW hS.1 hb, blkB hb hS.2.1 (blkLt hS.2.1), blkB hb hS.2.2.1 (blkLt hS.2.2.1), blkB hb hS.2.2.2 (blkLt hS.2.2.2)⟩ (fun hS => ?_)
            clear hb hK
            refine takeAny 6 (dN := some 20) (v := ?v12_6_14) rfl rfl (by kernel_rfl) (by kernel_rfl) (by kernel_rfl) (fun _ _ _ h => h) (.inl ⟨rfl, fun w' hSw => ?h12_6_14⟩) hS ?_
            case h12_6_14 => (go_simp; first | done | with_reducible rfl)
            simp only [Act.put, List.setIfInBounds_toArray, List.set_cons_zero, List.set_cons_succ]
            refine takeAny 7 (dN := some 27) (v := ?v12_7_15) rfl rfl (by kernel_rfl) (by kernel_rfl) (by kernel_rfl) (fun _ _ _ h => h) (.inl ⟨rfl, fun w' hSw => ?h12_7_15⟩) hS ?_
            case h12_7_15 => (go_simp; first | done | with_reducible rfl)
            simp only [Act.put, List.setIfInBounds_toArray, List.set_cons_zero, List.set_cons_succ]
            refine takeAny 8 (dN := some 28) (v := ?v12_8_16) rfl rfl (by kernel_rfl) (by kernel_rfl) (by kernel_rfl) (fun _ _ _ h => h) (.inl ⟨rfl, fun w' hSw => ?h12_8_16⟩) hS ?_
            case h12_8_16 => (go_simp; first | done | with_reducible rfl)
            simp only [Act.put, List.setIfInBounds_toArray, List.set_cons_zero, List.set_cons_succ]
            refine wpAnyH_ready (rs := [10]) (by kernel_rfl) (by simp) (AllReadyH.cons rfl (fun K hK => ?_) AllReadyH.nil)
            refine storeStep rfl rfl rfl rfl rfl hN9 (by rw [Lw.size]; exact size28) (by simp only [Lw.size]) (Lw.one _) ?_
            intro w2_10 j1 j2 j3 j4
            refine hK.out _ _ ⟨belT hS.1 j3 hG9, (j2 _ hne9_1).trans hS.2.1, (j2 _ hne9_2).trans hS.2.2.1, (j2 _ hne9_3).trans hS.2.2.2⟩ (fun hS => ?_)
            have hN9 := j1
            clear j1 j2 j3 j4 hK
            refine takeAny 11 (dN := some 10) (v := ?v12_11_18) rfl rfl (by kernel_rfl) (by kernel_rfl) (by kernel_rfl) (fun _ _ _ h => h) (.inl ⟨rfl, fun w' hSw => ?h12_11_18⟩) hS ?_
            case h12_11_18 => (go_simp; first | done | with_reducible rfl)
            simp only [Act.put, List.setIfInBounds_toArray, List.set_cons_zero, List.set_cons_succ]
            refine wpAnyH_done (by kernel_rfl) ?_ _
            (go_wp2_with fail; go_meet; exact ⟨g9, rfl, rfl, hS.1, hS.2.2.2, hN9⟩)
        · refine allocStep rfl rfl rfl hz ?_
          intro g9 w2_9 hG9 hlt hN9 hb
          have hne9_1 := Nat.ne_of_lt (Nat.lt_of_lt_of_le (blkLt hS.2.1) hG9)
          have hne9_2 := Nat.ne_of_lt (Nat.lt_of_lt_of_le (blkLt hS.2.2.1) hG9)
          have hne9_3 := Nat.ne_of_lt (Nat.lt_of_lt_of_le (blkLt hS.2.2.2) hG9)
          have hG9 := Nat.le_trans hS.1.size hG9
          simp only [Act.put, List.setIfInBounds_toArray, List.set_cons_zero, List.set_cons_succ]
          refine hK.out _ _ ⟨belW hS.1 hb, blkB hb hS.2.1 (blkLt hS.2.1), blkB hb hS.2.2.1 (blkLt hS.2.2.1), blkB hb hS.2.2.2 (blkLt hS.2.2.2)⟩ (fun hS => ?_)
          clear hb hK hlt
          refine wpAnyH_ready (rs := [3]) (by kernel_rfl) (by simp) (AllReadyH.cons rfl (fun K hK => ?_) AllReadyH.nil)
          go_simp
          go_at_call 14
          refine (toCell _ _ _).mono ?_
          rintro e w2_3 ⟨rfl, hb⟩
          have hN9 := blkB hb hN9 (blkLt hN9)
          refine hK.out _ _ ⟨belW hS.1 hb, blkB hb hS.2.1 (blkLt hS.2.1), blkB hb hS.2.2.1 (blkLt hS.2.2.1), blkB hb hS.2.2.2 (blkLt hS.2.2.2)⟩ (fun hS => ?_)
          clear hb hK
          refine wpAnyH_ready (rs := [5]) (by kernel_rfl) (by simp) (AllReadyH.cons rfl (fun K hK => ?_) AllReadyH.nil)
          go_simp
          go_at_call 17
          refine (setCell L hL x y k _).mono ?_
          rintro e w2_5 ⟨rfl, hb⟩
          have hN9 := blkB hb hN9 (blkLt hN9)
          refine hK.out _ _ ⟨belW hS.1 hb, blkB hb hS.2.1 (blkLt hS.2.1), blkB hb hS.2.2.1 (blkLt hS.2.2.1), blkB hb hS.2.2.2 (blkLt hS.2.2.2)⟩ (fun hS => ?_)
          clear hb hK
          refine takeAny 6 (dN := some 20) (v := ?v12_6_21) rfl rfl (by kernel_rfl) (by kernel_rfl) (by kernel_rfl) (fun _ _ _ h => h) (.inl ⟨rfl, fun w' hSw => ?h12_6_21⟩) hS ?_
          case h12_6_21 => (go_simp; first | done | with_reducible rfl)
          simp only [Act.put, List.setIfInBounds_toArray, List.set_cons_zero, List.set_cons_succ]
          refine takeAny 7 (dN := some 27) (v := ?v12_7_22) rfl rfl (by kernel_rfl) (by kernel_rfl) (by kernel_rfl) (fun _ _ _ h => h) (.inl ⟨rfl, fun w' hSw => ?h12_7_22⟩) hS ?_
          case h12_7_22 => (go_simp; first | done | with_reducible rfl)
          simp only [Act.put, List.setIfInBounds_toArray, List.set_cons_zero, List.set_cons_succ]
          refine takeAny 8 (dN := some 28) (v := ?v12_8_23) rfl rfl (by kernel_rfl) (by kernel_rfl) (by kernel_rfl) (fun _ _ _ h => h) (.inl ⟨rfl, fun w' hSw => ?h12_8_23⟩) hS ?_
          case h12_8_23 => (go_simp; first | done | with_reducible rfl)
          simp only [Act.put, List.setIfInBounds_toArray, List.set_cons_zero, List.set_cons_succ]
          refine wpAnyH_ready (rs := [10]) (by kernel_rfl) (by simp) (AllReadyH.cons rfl (fun K hK => ?_) AllReadyH.nil)
          refine storeStep rfl rfl rfl rfl rfl hN9 (by rw [Lw.size]; exact size28) (by simp only [Lw.size]) (Lw.one _) ?_
          intro w2_10 j1 j2 j3 j4
          refine hK.out _ _ ⟨belT hS.1 j3 hG9, (j2 _ hne9_1).trans hS.2.1, (j2 _ hne9_2).trans hS.2.2.1, (j2 _ hne9_3).trans hS.2.2.2⟩ (fun hS => ?_)
          have hN9 := j1
          clear j1 j2 j3 j4 hK
          refine takeAny 11 (dN := some 10) (v := ?v12_11_25) rfl rfl (by kernel_rfl) (by kernel_rfl) (by kernel_rfl) (fun _ _ _ h => h) (.inl ⟨rfl, fun w' hSw => ?h12_11_25⟩) hS ?_
          case h12_11_25 => (go_simp; first | done | with_reducible rfl)
          simp only [Act.put, List.setIfInBounds_toArray, List.set_cons_zero, List.set_cons_succ]
          refine wpAnyH_done (by kernel_rfl) ?_ _
          (go_wp2_with fail; go_meet; exact ⟨g9, rfl, rfl, hS.1, hS.2.2.2, hN9⟩)
      · refine allocStep rfl rfl rfl hz ?_
        intro g9 w2_9 hG9 hlt hN9 hb
        have hne9_1 := Nat.ne_of_lt (Nat.lt_of_lt_of_le (blkLt hS.2.1) hG9)
        have hne9_2 := Nat.ne_of_lt (Nat.lt_of_lt_of_le (blkLt hS.2.2.1) hG9)
        have hne9_3 := Nat.ne_of_lt (Nat.lt_of_lt_of_le (blkLt hS.2.2.2) hG9)
        have hG9 := Nat.le_trans hS.1.size hG9
        simp only [Act.put, List.setIfInBounds_toArray, List.set_cons_zero, List.set_cons_succ]
        refine hK.out _ _ ⟨belW hS.1 hb, blkB hb hS.2.1 (blkLt hS.2.1), blkB hb hS.2.2.1 (blkLt hS.2.2.1), blkB hb hS.2.2.2 (blkLt hS.2.2.2)⟩ (fun hS => ?_)
        clear hb hK hlt
        refine wpAnyH_ready (rs := [1]) (by kernel_rfl) (by simp) (AllReadyH.cons rfl (fun K hK => ?_) AllReadyH.nil)
        go_simp
        go_at_call 11
        refine (toLawn _ _).mono ?_
        rintro e w2_1 ⟨rfl, hb⟩
        have hN9 := blkB hb hN9 (blkLt hN9)
        refine hK.out _ _ ⟨belW hS.1 hb, blkB hb hS.2.1 (blkLt hS.2.1), blkB hb hS.2.2.1 (blkLt hS.2.2.1), blkB hb hS.2.2.2 (blkLt hS.2.2.2)⟩ (fun hS => ?_)
        clear hb hK
        refine wpAnyH_ready (rs := [3]) (by kernel_rfl) (by simp) (AllReadyH.cons rfl (fun K hK => ?_) AllReadyH.nil)
        go_simp
        go_at_call 14
        refine (toCell _ _ _).mono ?_
        rintro e w2_3 ⟨rfl, hb⟩
        have hN9 := blkB hb hN9 (blkLt hN9)
        refine hK.out _ _ ⟨belW hS.1 hb, blkB hb hS.2.1 (blkLt hS.2.1), blkB hb hS.2.2.1 (blkLt hS.2.2.1), blkB hb hS.2.2.2 (blkLt hS.2.2.2)⟩ (fun hS => ?_)
        clear hb hK
        refine wpAnyH_ready (rs := [5]) (by kernel_rfl) (by simp) (AllReadyH.cons rfl (fun K hK => ?_) AllReadyH.nil)
        go_simp
        go_at_call 17
        refine (setCell L hL x y k _).mono ?_
        rintro e w2_5 ⟨rfl, hb⟩
        have hN9 := blkB hb hN9 (blkLt hN9)
        refine hK.out _ _ ⟨belW hS.1 hb, blkB hb hS.2.1 (blkLt hS.2.1), blkB hb hS.2.2.1 (blkLt hS.2.2.1), blkB hb hS.2.2.2 (blkLt hS.2.2.2)⟩ (fun hS => ?_)
        clear hb hK
        refine takeAny 6 (dN := some 20) (v := ?v12_6_29) rfl rfl (by kernel_rfl) (by kernel_rfl) (by kernel_rfl) (fun _ _ _ h => h) (.inl ⟨rfl, fun w' hSw => ?h12_6_29⟩) hS ?_
        case h12_6_29 => (go_simp; first | done | with_reducible rfl)
        simp only [Act.put, List.setIfInBounds_toArray, List.set_cons_zero, List.set_cons_succ]
        refine takeAny 7 (dN := some 27) (v := ?v12_7_30) rfl rfl (by kernel_rfl) (by kernel_rfl) (by kernel_rfl) (fun _ _ _ h => h) (.inl ⟨rfl, fun w' hSw => ?h12_7_30⟩) hS ?_
        case h12_7_30 => (go_simp; first | done | with_reducible rfl)
        simp only [Act.put, List.setIfInBounds_toArray, List.set_cons_zero, List.set_cons_succ]
        refine takeAny 8 (dN := some 28) (v := ?v12_8_31) rfl rfl (by kernel_rfl) (by kernel_rfl) (by kernel_rfl) (fun _ _ _ h => h) (.inl ⟨rfl, fun w' hSw => ?h12_8_31⟩) hS ?_
        case h12_8_31 => (go_simp; first | done | with_reducible rfl)
        simp only [Act.put, List.setIfInBounds_toArray, List.set_cons_zero, List.set_cons_succ]
        refine wpAnyH_ready (rs := [10]) (by kernel_rfl) (by simp) (AllReadyH.cons rfl (fun K hK => ?_) AllReadyH.nil)
        refine storeStep rfl rfl rfl rfl rfl hN9 (by rw [Lw.size]; exact size28) (by simp only [Lw.size]) (Lw.one _) ?_
        intro w2_10 j1 j2 j3 j4
        refine hK.out _ _ ⟨belT hS.1 j3 hG9, (j2 _ hne9_1).trans hS.2.1, (j2 _ hne9_2).trans hS.2.2.1, (j2 _ hne9_3).trans hS.2.2.2⟩ (fun hS => ?_)
        have hN9 := j1
        clear j1 j2 j3 j4 hK
        refine takeAny 11 (dN := some 10) (v := ?v12_11_33) rfl rfl (by kernel_rfl) (by kernel_rfl) (by kernel_rfl) (fun _ _ _ h => h) (.inl ⟨rfl, fun w' hSw => ?h12_11_33⟩) hS ?_
        case h12_11_33 => (go_simp; first | done | with_reducible rfl)
        simp only [Act.put, List.setIfInBounds_toArray, List.set_cons_zero, List.set_cons_succ]
        refine wpAnyH_done (by kernel_rfl) ?_ _
        (go_wp2_with fail; go_meet; exact ⟨g9, rfl, rfl, hS.1, hS.2.2.2, hN9⟩)
    case rest =>
      obtain ⟨g2, rfl, rfl, hB, h3, h4⟩ := hcut
      go_wp2_with (first | (refine loadRow 29 rfl rfl rfl rfl Try.underlying26 rfl h4 (by rw [Lw.size]; exact size28) ?_) | (refine loadRow 30 rfl rfl rfl rfl Try.underlying26 rfl h3 (by rw [Lw.size]; exact size28) ?_) | (go_at_call 9; refine (eqLawn _ _).mono ?_; rintro e w5 ⟨rfl, hb5⟩))
      go_ret
      exact ⟨rfl, belW hB hb5⟩
end Go.Proofs.Ytbjglaflggkalaa.L
