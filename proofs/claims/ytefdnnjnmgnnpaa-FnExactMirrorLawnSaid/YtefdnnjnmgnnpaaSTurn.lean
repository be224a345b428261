/- Walks: a lawn turned, a lawn mirrored; the reference's. -/
import Derived.Test.YtefdnnjnmgnnpaaMirror
namespace Go.Proofs.Ytefdnnjnmgnnpaa.L
set_option linter.unusedSimpArgs false
set_option linter.unusedVariables false
open Go.RowKit Go.Proofs.Ytefdnnjnmgnnpaa.B

/-- So many cells have come to the new lawn. -/
def STurnR (L : Lw) (Z : Nat → Lw) (o : Nat) (w wr : World) (k : Nat) : Prop :=
  Below w.heap.size w wr ∧ wr.heap[w.heap.size]? = some (.cells L.cells 28 (0, 0)) ∧ wr.heap[w.heap.size + 1]? = some (.cells (Lw.cells ⟨0, 0, fun _ => 0⟩) 28 (0, 0)) ∧ wr.heap[o]? = some (.cells (Z k).cells 28 (0, 0)) ∧ w.heap.size + 1 < o
theorem STurnR.next {L : Lw} {Z : Nat → Lw} {o : Nat} {w wr : World} {k p i : Nat} {v : Int} (h : STurnR L Z o w wr k) (hp : p = 2 + i) (hi : i < 100) (hz : Z (k + 1) = { Z k with c := fun j => if j = i then v else (Z k).c j }) :
    STurnR L Z o w (wr.setCell ⟨o, p, none⟩ (.int .u8 v)).drew (k + 1) := by
  obtain ⟨h1, h2, h3, h4, h6⟩ := h
  subst hp
  refine ⟨belD (belS h1 (p := ⟨o, _, none⟩) (by show w.heap.size ≤ o; omega)), blkD (blkO h2 (p := ⟨o, _, none⟩) (by show w.heap.size ≠ o; omega)), blkD (blkO h3 (p := ⟨o, _, none⟩) (by show w.heap.size + 1 ≠ o; omega)), ?_, h6⟩
  refine blkD ?_
  rw [blkS h4, Lw.set2 _ hi, hz]

set_option maxRecDepth 100000 in
set_option maxHeartbeats 4000000 in
theorem sturnOk (L : Lw) (hL : Lw.Ok L) (hv : validB L = true) (W H : Nat) (hw : L.wide = W) (hh : L.high = H) (hW1 : 1 ≤ W) (hW : W ≤ 10) (hH1 : 1 ≤ H) (hH : H ≤ 10) (w : World) :
    Calls Try.prog 10 #[.agg L.cells] w fun e w' => e = .returned (.tuple #[.agg (turnL L W H (W * H)).cells, .int .i64 0]) ∧ Below w.heap.size w w' := by
  obtain ⟨hz, hz2⟩ := zero_of_info zeroLw
  have hz3 := Lw.ne ⟨0, 0, fun _ => 0⟩
  have hz4 := Lw.size ⟨0, 0, fun _ => 0⟩
  have hz5 := Lw.size ⟨H, 0, fun _ => 0⟩
  have HC := fun (g : Nat) (t : TypeId) (w : World) hg => sOk L hL g t w hg
  rw [hv] at HC
  have HC := Lib.hid HC
  have HL := Lib.hid hL
  have g0 := L.get0
  have g1 := L.get1
  rw [hw] at g0
  rw [hh] at g1
  have s0 := Lw.set0 ⟨0, 0, fun _ => 0⟩ H
  have s1 := Lw.set1 ⟨H, 0, fun _ => 0⟩ W
  clear hw hh hv hL
  go_enter Try.func10, Try.ntmps10
  go_wp2_with (first | (go_at_call 17; refine (HC.out w.heap.size _ _ (blkA (blkN rfl))).mono ?_; rintro e w1 ⟨rfl, hb⟩; have hB1 := belW (belA (belA (Below.refl w.heap.size w))) hb; have h1 : w1.heap[w.heap.size]? = some (.cells L.cells 28 (0, 0)) := blkB hb (blkA (blkN rfl)) (by first | (simp; done) | (simp; omega)); have h2 : w1.heap[w.heap.size + 1]? = some (.cells (Lw.cells ⟨0, 0, fun _ => 0⟩) 28 (0, 0)) := blkB hb (blkN (by simp)) (by first | (simp; done) | (simp; omega)); have c0 : w1.cell? ⟨w.heap.size, 0, none⟩ = some (.int .i8 W) := (blkC h1 0).trans g0; have c1 : w1.cell? ⟨w.heap.size, 1, none⟩ = some (.int .i8 H) := (blkC h1 1).trans g1) | (refine storeRow rfl rfl rfl rfl rfl (blkN rfl) (by rw [Lw.size]; exact size28) (by simp only [Lw.size]) (Lw.one _) ?_; intro w2 j1 j2 j3 j4; have n1 := blkLt h1; have n2 := blkLt h2; have hB2 := belT (belA hB1 (o := .cells (Lw.cells ⟨0, 0, fun _ => 0⟩) 28)) j3 hB1.size; have k1 := (j2 _ (Nat.ne_of_lt n1)).trans (blkA h1); have k2 := (j2 _ (Nat.ne_of_lt n2)).trans (blkA h2)))
  have hR0 : STurnR L (turnL L W H) w1.heap.size w w2 0 := ⟨hB2, k1, k2, j1, n2⟩
  obtain ⟨o, ho'⟩ : ∃ o, o = w1.heap.size := ⟨_, rfl⟩
  rw [← ho'] at hR0 ⊢
  have HR0 := Lib.hid hR0
  clear hR0 ho' k1 k2 hB2 n1 n2 j1 j2 j3 j4 c0 c1 h1 h2 hB1 hb s0 s1 hz3 hz4 hz5
  go_loopw [5] (fun i wr => ∃ y : Nat, y ≤ H ∧ i = .int .i8 y ∧ STurnR L (turnL L W H) o w wr (y * W)) (fun i _ => H - (intOf i).toNat)
  case atStart => exact ⟨0, by omega, rfl, by rw [Nat.zero_mul]; exact HR0.out⟩
  case round =>
    obtain ⟨y, hy, rfl, hr⟩ := hrel
    have d1 := (blkC hr.2.1 1).trans g1
    by_cases hy1 : y < H
    · have hd : decide ((y : Int) < H) = true := by simp; omega
      go_wp2
      clear d1
      go_loopw [6] (fun i wr => ∃ x : Nat, x ≤ W ∧ i = .int .i8 x ∧ STurnR L (turnL L W H) o w wr (y * W + x)) (fun i _ => W - (intOf i).toNat)
      case atStart => exact ⟨0, by omega, rfl, hr⟩
      case round =>
        obtain ⟨x, hx, rfl, hr⟩ := hrel
        have d0 := (blkC hr.2.1 0).trans g0
        by_cases hx1 : x < W
        · have hd2 : decide ((x : Int) < W) = true := by simp; omega
          obtain ⟨t, ht⟩ : ∃ t, t = H - 1 - y := ⟨_, rfl⟩
          have HT := Lib.hid ht
          go_wp2
          clear d0
          obtain ⟨v, hv⟩ : ∃ v, v = L.c (y * 10 + x) := ⟨_, rfl⟩
          obtain ⟨v0, v1⟩ := HL.out.2.2.2.2 (y * 10 + x) (by omega)
          have A1 : wr.drew.heap[w.heap.size]? = some (.cells L.cells 28 (0, 0)) := blkD hr.2.1
          have A3 : wr.drew.heap[o]? = some (.cells (turnL L W H (y * W + x)).cells 28 (0, 0)) := blkD hr.2.2.2.1
          have e0 := (blkC A1 1).trans g1
          have e3 := (blkC A1 (2 + y * 10 + x)).trans (L.getYX (by omega))
          have e4 := (blkC A3 (2 + x * 10 + t)).trans (Lw.getYX _ (by omega))
          have f4 := blkF A3 (i := 2 + x * 10 + t)
          have o1 : w.heap.size ≠ o := Nat.ne_of_lt (Nat.lt_trans (Nat.lt_succ_self _) hr.2.2.2.2)
          rw [← hv] at e3
          have HV := Lib.hid hv
          have x1 : IntKind.i8.wrap ((H : Int) - 1) = (H : Int) - 1 := i8_in (by omega) (by omega)
          have x2 : IntKind.i8.wrap ((H : Int) - 1 - (y : Int)) = (t : Int) := by rw [i8_in (by omega) (by omega)]; omega
          have b1 : (0 : Int) ≤ x := by omega
          have b2 : (x : Int) < 10 := by omega
          have b3 : (0 : Int) ≤ y := by omega
          have b4 : (y : Int) < 10 := by omega
          have b5 : (0 : Int) ≤ t := by omega
          have b6 : (t : Int) < 10 := by omega
          clear hv v0 v1 A1 A3 ht
          refine wp_region_held_drew (S := fun w' => w'.cell? ⟨w.heap.size, 1, none⟩ = some (.int .i8 H) ∧ w'.cell? ⟨w.heap.size, 2 + y * 10 + x, none⟩ = some (.int .u8 v)) (by kernel_rfl) ⟨e0, e3⟩ (fun hS => ?_)
          refine takeAny 0 (dN := some 27) (v := ?v1_0_1) rfl rfl (by kernel_rfl) (by kernel_rfl) (by kernel_rfl) (fun _ _ _ h => h) (.inl ⟨rfl, fun w' hSw => ?h1_0_1⟩) hS ?_
          case h1_0_1 => (go_simp; first | done | with_reducible rfl)
          simp only [Act.put, List.setIfInBounds_toArray, List.set_cons_zero, List.set_cons_succ]
          refine takeAny 1 (dN := some 28) (v := ?v1_1_2) rfl rfl (by kernel_rfl) (by kernel_rfl) (by kernel_rfl) (fun _ _ _ h => h) (.inl ⟨rfl, fun w' hSw => ?h1_1_2⟩) hS ?_
          case h1_1_2 => (go_simp; first | done | with_reducible rfl)
          simp only [Act.put, List.setIfInBounds_toArray, List.set_cons_zero, List.set_cons_succ]
          refine takeAny 2 (dN := some 29) (v := ?v1_2_3) rfl rfl (by kernel_rfl) (by kernel_rfl) (by kernel_rfl) (fun _ _ _ h => h) (.inl ⟨rfl, fun w' hSw => ?h1_2_3⟩) hS ?_
          case h1_2_3 => (go_simp; first | done | with_reducible rfl)
          simp only [Act.put, List.setIfInBounds_toArray, List.set_cons_zero, List.set_cons_succ]
          refine takeAny 3 (dN := some 30) (v := ?v1_3_4) rfl rfl (by kernel_rfl) (by kernel_rfl) (by kernel_rfl) (fun _ _ _ h => h) (.inl ⟨rfl, fun w' hSw => ?h1_3_4⟩) hS ?_
          case h1_3_4 => (go_simp; first | done | with_reducible rfl)
          simp only [Act.put, List.setIfInBounds_toArray, List.set_cons_zero, List.set_cons_succ]
          refine takeAny 4 (dN := some 31) (v := ?v1_4_5) rfl rfl (by kernel_rfl) (by kernel_rfl) (by kernel_rfl) (fun _ _ _ h => h) (.inl ⟨rfl, fun w' hSw => ?h1_4_5⟩) hS ?_
          case h1_4_5 => (go_simp; first | done | with_reducible rfl)
          simp only [Act.put, List.setIfInBounds_toArray, List.set_cons_zero, List.set_cons_succ]
          refine takeAny 5 (dN := some 32) (v := ?v1_5_6) rfl rfl (by kernel_rfl) (by kernel_rfl) (by kernel_rfl) (fun _ _ _ h => h) (.inl ⟨rfl, fun w' hSw => ?h1_5_6⟩) hS ?_
          case h1_5_6 => (go_simp; first | done | with_reducible rfl)
          simp only [Act.put, List.setIfInBounds_toArray, List.set_cons_zero, List.set_cons_succ]
          refine takeAny 6 (dN := some 33) (v := ?v1_6_7) rfl rfl (by kernel_rfl) (by kernel_rfl) (by kernel_rfl) (fun _ _ _ h => h) (.inl ⟨rfl, fun w' hSw => ?h1_6_7⟩) hS ?_
          case h1_6_7 => (go_simp; first | done | with_reducible rfl)
          simp only [Act.put, List.setIfInBounds_toArray, List.set_cons_zero, List.set_cons_succ]
          refine takeAny 7 (dN := some 34) (v := ?v1_7_8) rfl rfl (by kernel_rfl) (by kernel_rfl) (by kernel_rfl) (fun _ _ _ h => h) (.inl ⟨rfl, fun w' hSw => ?h1_7_8⟩) hS ?_
          case h1_7_8 => (go_simp; first | done | with_reducible rfl)
          simp only [Act.put, List.setIfInBounds_toArray, List.set_cons_zero, List.set_cons_succ]
          refine takeAny 8 (dN := some 35) (v := ?v1_8_9) rfl rfl (by kernel_rfl) (by kernel_rfl) (by kernel_rfl) (fun _ _ _ h => h) (.inl ⟨rfl, fun w' hSw => ?h1_8_9⟩) hS ?_
          case h1_8_9 => (go_simp; first | done | with_reducible rfl)
          simp only [Act.put, List.setIfInBounds_toArray, List.set_cons_zero, List.set_cons_succ]
          refine takeAny 9 (dN := some 36) (v := ?v1_9_10) rfl rfl (by kernel_rfl) (by kernel_rfl) (by kernel_rfl) (fun _ _ _ h => h) (.inl ⟨rfl, fun w' hSw => ?h1_9_10⟩) hS ?_
          case h1_9_10 => (go_simp; first | done | with_reducible rfl)
          simp only [Act.put, List.setIfInBounds_toArray, List.set_cons_zero, List.set_cons_succ]
          refine takeAny 10 (dN := some 37) (v := ?v1_10_11) rfl rfl (by kernel_rfl) (by kernel_rfl) (by kernel_rfl) (fun _ _ _ h => h) (.inl ⟨rfl, fun w' hSw => ?h1_10_11⟩) hS ?_
          case h1_10_11 => (go_simp; first | done | with_reducible rfl)
          simp only [Act.put, List.setIfInBounds_toArray, List.set_cons_zero, List.set_cons_succ]
          refine takeAny 11 (dN := some 38) (v := ?v1_11_12) rfl rfl (by kernel_rfl) (by kernel_rfl) (by kernel_rfl) (fun _ _ _ h => h) (.inl ⟨rfl, fun w' hSw => ?h1_11_12⟩) hS ?_
          case h1_11_12 => (go_simp; first | done | with_reducible rfl)
          simp only [Act.put, List.setIfInBounds_toArray, List.set_cons_zero, List.set_cons_succ]
          refine takeAny 12 (dN := some 39) (v := ?v1_12_13) rfl rfl (by kernel_rfl) (by kernel_rfl) (by kernel_rfl) (fun _ _ _ h => h) (.inl ⟨rfl, fun w' hSw => ?h1_12_13⟩) hS ?_
          case h1_12_13 => (go_simp; first | done | with_reducible rfl)
          simp only [Act.put, List.setIfInBounds_toArray, List.set_cons_zero, List.set_cons_succ]
          refine takeAny 13 (dN := some 40) (v := ?v1_13_14) rfl rfl (by kernel_rfl) (by kernel_rfl) (by kernel_rfl) (fun _ _ _ h => h) (.inl ⟨rfl, fun w' hSw => ?h1_13_14⟩) hS ?_
          case h1_13_14 => (go_simp; first | done | with_reducible rfl)
          simp only [Act.put, List.setIfInBounds_toArray, List.set_cons_zero, List.set_cons_succ]
          refine takeAny 14 (dN := some 41) (v := ?v1_14_15) rfl rfl (by kernel_rfl) (by kernel_rfl) (by kernel_rfl) (fun _ _ _ h => h) (.inl ⟨rfl, fun w' hSw => ?h1_14_15⟩) hS ?_
          case h1_14_15 => (go_simp; first | done | with_reducible rfl)
          simp only [Act.put, List.setIfInBounds_toArray, List.set_cons_zero, List.set_cons_succ]
          refine wpAnyH_ready (rs := [15]) (by kernel_rfl) (by simp) (AllReadyH.cons rfl (fun K hK => ?_) AllReadyH.nil)
          go_simp
          refine hK.out _ _ ⟨celO e0 o1, celO e3 o1⟩ (fun hS => ?_)
          clear hK
          refine wpAnyH_done (by kernel_rfl) ?_ _
          clear e0 e3 e4 f4 x1 x2 hS
          go_wp2
          refine ⟨?_, by simp [intOf]; omega⟩
          have hkk := kAt (k := y) hx1
          have hr2 := hr.next (p := 2 + x * 10 + t) (i := x * 10 + t) (v := v) (Nat.add_assoc _ _ _) (by omega) (by show Lw.mk _ _ (laidC _ _ _ (y * W + x + 1)) = _; unfold laidC turnN srcN; rw [hkk.1, hkk.2, ← HT.out, ← HV.out]; rfl)
          first | exact ⟨x + 1, by omega, by go_num, hr2⟩ | ((repeat (apply Exists.intro)); exact ⟨⟨x + 1, by omega, by go_num, hr2⟩, rfl⟩)
        · have hd2 : decide ((x : Int) < W) = false := by simp; omega
          go_wp2
          refine ⟨?_, by simp [intOf]; omega⟩
          have hr2 : STurnR L (turnL L W H) o w wr ((y + 1) * W) := by rw [show (y + 1) * W = y * W + x by rw [Nat.add_mul]; omega]; exact hr
          first | exact ⟨y + 1, by omega, by go_num, hr2⟩ | ((repeat (apply Exists.intro)); exact ⟨⟨y + 1, by omega, by go_num, hr2⟩, rfl⟩)
    · have hd : decide ((y : Int) < H) = false := by simp; omega
      have e : y * W = W * H := by rw [Nat.mul_comm, show y = H by omega]
      have E := Lib.hid e
      clear e
      go_wp2_with (first | (refine loadRow 42 rfl rfl rfl rfl Try.underlying28 rfl hr.2.2.2.1 (by rw [Lw.size]; exact size28) ?_) | (refine storeRow rfl rfl rfl rfl rfl hr.2.2.1 (by rw [Lw.size]; exact size28) (by simp only [Lw.size]) (Lw.one _) ?_; intro w4 j1 j2 j3 j4))
      exact retRowTmp rfl rfl rfl j1 Try.underlying28 rfl (by rw [Lw.size]; exact size28) rfl ⟨by rw [E.out]; rfl, belT hr.1 j3 (by omega)⟩

set_option maxRecDepth 100000 in
set_option maxHeartbeats 4000000 in
theorem sturnNo (L : Lw) (hL : Lw.Ok L) (hv : validB L = false) (w : World) :
    Calls Try.prog 10 #[.agg L.cells] w fun e w' => e = .returned (.tuple #[.agg (Lw.cells ⟨0, 0, fun _ => 0⟩), .int .i64 1]) ∧ Below w.heap.size w w' := by
  obtain ⟨hz, hz2⟩ := zero_of_info zeroLw
  have HC := fun (g : Nat) (t : TypeId) (w : World) hg => sOk L hL g t w hg
  rw [hv] at HC
  have HC := Lib.hid HC
  clear hv hL
  go_enter Try.func10, Try.ntmps10
  go_wp2_with (first | (go_at_call 17; refine (HC.out w.heap.size _ _ (blkA (blkN rfl))).mono ?_; rintro e w1 ⟨rfl, hb⟩; have hB1 := belW (belA (belA (Below.refl w.heap.size w))) hb; have h2 : w1.heap[w.heap.size + 1]? = some (.cells (Lw.cells ⟨0, 0, fun _ => 0⟩) 28 (0, 0)) := blkB hb (blkN (by simp)) (by first | (simp; done) | (simp; omega))) | (refine storeRow rfl rfl rfl rfl rfl h2 (by rw [Lw.size]; exact size28) rfl (Lw.one _) ?_; intro w4 j1 j2 j3 j4))
  exact retRowTmp rfl rfl rfl j1 Try.underlying28 rfl (by rw [Lw.size]; exact size28) rfl ⟨rfl, belT hB1 j3 (by omega)⟩

set_option maxRecDepth 100000 in
set_option maxHeartbeats 4000000 in
theorem smirrorOk (L : Lw) (hL : Lw.Ok L) (hv : validB L = true) (W H : Nat) (hw : L.wide = W) (hh : L.high = H) (hW1 : 1 ≤ W) (hW : W ≤ 10) (hH1 : 1 ≤ H) (hH : H ≤ 10) (w : World) :
    Calls Try.prog 13 #[.agg L.cells] w fun e w' => e = .returned (.tuple #[.agg (mirL L W H (W * H)).cells, .int .i64 0]) ∧ Below w.heap.size w w' := by
  obtain ⟨hz, hz2⟩ := zero_of_info zeroLw
  have hz3 := Lw.ne ⟨0, 0, fun _ => 0⟩
  have hz4 := Lw.size ⟨0, 0, fun _ => 0⟩
  have hz5 := Lw.size ⟨W, 0, fun _ => 0⟩
  have HC := fun (g : Nat) (t : TypeId) (w : World) hg => sOk L hL g t w hg
  rw [hv] at HC
  have HC := Lib.hid HC
  have HL := Lib.hid hL
  have g0 := L.get0
  have g1 := L.get1
  rw [hw] at g0
  rw [hh] at g1
  have s0 := Lw.set0 ⟨0, 0, fun _ => 0⟩ W
  have s1 := Lw.set1 ⟨W, 0, fun _ => 0⟩ H
  clear hw hh hv hL
  go_enter Try.func13, Try.ntmps13
  go_wp2_with (first | (go_at_call 17; refine (HC.out w.heap.size _ _ (blkA (blkN rfl))).mono ?_; rintro e w1 ⟨rfl, hb⟩; have hB1 := belW (belA (belA (Below.refl w.heap.size w))) hb; have h1 : w1.heap[w.heap.size]? = some (.cells L.cells 28 (0, 0)) := blkB hb (blkA (blkN rfl)) (by first | (simp; done) | (simp; omega)); have h2 : w1.heap[w.heap.size + 1]? = some (.cells (Lw.cells ⟨0, 0, fun _ => 0⟩) 28 (0, 0)) := blkB hb (blkN (by simp)) (by first | (simp; done) | (simp; omega)); have c0 : w1.cell? ⟨w.heap.size, 0, none⟩ = some (.int .i8 W) := (blkC h1 0).trans g0; have c1 : w1.cell? ⟨w.heap.size, 1, none⟩ = some (.int .i8 H) := (blkC h1 1).trans g1) | (refine storeRow rfl rfl rfl rfl rfl (blkN rfl) (by rw [Lw.size]; exact size28) (by simp only [Lw.size]) (Lw.one _) ?_; intro w2 j1 j2 j3 j4; have n1 := blkLt h1; have n2 := blkLt h2; have hB2 := belT (belA hB1 (o := .cells (Lw.cells ⟨0, 0, fun _ => 0⟩) 28)) j3 hB1.size; have k1 := (j2 _ (Nat.ne_of_lt n1)).trans (blkA h1); have k2 := (j2 _ (Nat.ne_of_lt n2)).trans (blkA h2)))
  have hR0 : STurnR L (mirL L W H) w1.heap.size w w2 0 := ⟨hB2, k1, k2, j1, n2⟩
  obtain ⟨o, ho'⟩ : ∃ o, o = w1.heap.size := ⟨_, rfl⟩
  rw [← ho'] at hR0 ⊢
  have HR0 := Lib.hid hR0
  clear hR0 ho' k1 k2 hB2 n1 n2 j1 j2 j3 j4 c0 c1 h1 h2 hB1 hb s0 s1 hz3 hz4 hz5
  go_loopw [5] (fun i wr => ∃ y : Nat, y ≤ H ∧ i = .int .i8 y ∧ STurnR L (mirL L W H) o w wr (y * W)) (fun i _ => H - (intOf i).toNat)
  case atStart => exact ⟨0, by omega, rfl, by rw [Nat.zero_mul]; exact HR0.out⟩
  case round =>
    obtain ⟨y, hy, rfl, hr⟩ := hrel
    have d1 := (blkC hr.2.1 1).trans g1
    by_cases hy1 : y < H
    · have hd : decide ((y : Int) < H) = true := by simp; omega
      go_wp2
      clear d1
      go_loopw [6] (fun i wr => ∃ x : Nat, x ≤ W ∧ i = .int .i8 x ∧ STurnR L (mirL L W H) o w wr (y * W + x)) (fun i _ => W - (intOf i).toNat)
      case atStart => exact ⟨0, by omega, rfl, hr⟩
      case round =>
        obtain ⟨x, hx, rfl, hr⟩ := hrel
        have d0 := (blkC hr.2.1 0).trans g0
        by_cases hx1 : x < W
        · have hd2 : decide ((x : Int) < W) = true := by simp; omega
          obtain ⟨t, ht⟩ : ∃ t, t = W - 1 - x := ⟨_, rfl⟩
          have HT := Lib.hid ht
          go_wp2
          clear d0
          obtain ⟨v, hv⟩ : ∃ v, v = L.c (y * 10 + x) := ⟨_, rfl⟩
          obtain ⟨v0, v1⟩ := HL.out.2.2.2.2 (y * 10 + x) (by omega)
          have A1 : wr.drew.heap[w.heap.size]? = some (.cells L.cells 28 (0, 0)) := blkD hr.2.1
          have A3 : wr.drew.heap[o]? = some (.cells (mirL L W H (y * W + x)).cells 28 (0, 0)) := blkD hr.2.2.2.1
          have e0 := (blkC A1 0).trans g0
          have e3 := (blkC A1 (2 + y * 10 + x)).trans (L.getYX (by omega))
          have e4 := (blkC A3 (2 + y * 10 + t)).trans (Lw.getYX _ (by omega))
          have f4 := blkF A3 (i := 2 + y * 10 + t)
          have o1 : w.heap.size ≠ o := Nat.ne_of_lt (Nat.lt_trans (Nat.lt_succ_self _) hr.2.2.2.2)
          rw [← hv] at e3
          have HV := Lib.hid hv
          have x1 : IntKind.i8.wrap ((W : Int) - 1) = (W : Int) - 1 := i8_in (by omega) (by omega)
          have x2 : IntKind.i8.wrap ((W : Int) - 1 - (x : Int)) = (t : Int) := by rw [i8_in (by omega) (by omega)]; omega
          have b1 : (0 : Int) ≤ x := by omega
          have b2 : (x : Int) < 10 := by omega
          have b3 : (0 : Int) ≤ y := by omega
          have b4 : (y : Int) < 10 := by omega
          have b5 : (0 : Int) ≤ t := by omega
          have b6 : (t : Int) < 10 := by omega
          clear hv v0 v1 A1 A3 ht
          refine wp_region_held_drew (S := fun w' => w'.cell? ⟨w.heap.size, 0, none⟩ = some (.int .i8 W) ∧ w'.cell? ⟨w.heap.size, 2 + y * 10 + x, none⟩ = some (.int .u8 v)) (by kernel_rfl) ⟨e0, e3⟩ (fun hS => ?_)
          refine takeAny 0 (dN := some 27) (v := ?v2_0_1) rfl rfl (by kernel_rfl) (by kernel_rfl) (by kernel_rfl) (fun _ _ _ h => h) (.inl ⟨rfl, fun w' hSw => ?h2_0_1⟩) hS ?_
          case h2_0_1 => (go_simp; first | done | with_reducible rfl)
          simp only [Act.put, List.setIfInBounds_toArray, List.set_cons_zero, List.set_cons_succ]
          refine takeAny 1 (dN := some 28) (v := ?v2_1_2) rfl rfl (by kernel_rfl) (by kernel_rfl) (by kernel_rfl) (fun _ _ _ h => h) (.inl ⟨rfl, fun w' hSw => ?h2_1_2⟩) hS ?_
          case h2_1_2 => (go_simp; first | done | with_reducible rfl)
          simp only [Act.put, List.setIfInBounds_toArray, List.set_cons_zero, List.set_cons_succ]
          refine takeAny 2 (dN := some 29) (v := ?v2_2_3) rfl rfl (by kernel_rfl) (by kernel_rfl) (by kernel_rfl) (fun _ _ _ h => h) (.inl ⟨rfl, fun w' hSw => ?h2_2_3⟩) hS ?_
          case h2_2_3 => (go_simp; first | done | with_reducible rfl)
          simp only [Act.put, List.setIfInBounds_toArray, List.set_cons_zero, List.set_cons_succ]
          refine takeAny 3 (dN := some 30) (v := ?v2_3_4) rfl rfl (by kernel_rfl) (by kernel_rfl) (by kernel_rfl) (fun _ _ _ h => h) (.inl ⟨rfl, fun w' hSw => ?h2_3_4⟩) hS ?_
          case h2_3_4 => (go_simp; first | done | with_reducible rfl)
          simp only [Act.put, List.setIfInBounds_toArray, List.set_cons_zero, List.set_cons_succ]
          refine takeAny 4 (dN := some 31) (v := ?v2_4_5) rfl rfl (by kernel_rfl) (by kernel_rfl) (by kernel_rfl) (fun _ _ _ h => h) (.inl ⟨rfl, fun w' hSw => ?h2_4_5⟩) hS ?_
          case h2_4_5 => (go_simp; first | done | with_reducible rfl)
          simp only [Act.put, List.setIfInBounds_toArray, List.set_cons_zero, List.set_cons_succ]
          refine takeAny 5 (dN := some 32) (v := ?v2_5_6) rfl rfl (by kernel_rfl) (by kernel_rfl) (by kernel_rfl) (fun _ _ _ h => h) (.inl ⟨rfl, fun w' hSw => ?h2_5_6⟩) hS ?_
          case h2_5_6 => (go_simp; first | done | with_reducible rfl)
          simp only [Act.put, List.setIfInBounds_toArray, List.set_cons_zero, List.set_cons_succ]
          refine takeAny 6 (dN := some 33) (v := ?v2_6_7) rfl rfl (by kernel_rfl) (by kernel_rfl) (by kernel_rfl) (fun _ _ _ h => h) (.inl ⟨rfl, fun w' hSw => ?h2_6_7⟩) hS ?_
          case h2_6_7 => (go_simp; first | done | with_reducible rfl)
          simp only [Act.put, List.setIfInBounds_toArray, List.set_cons_zero, List.set_cons_succ]
          refine takeAny 7 (dN := some 34) (v := ?v2_7_8) rfl rfl (by kernel_rfl) (by kernel_rfl) (by kernel_rfl) (fun _ _ _ h => h) (.inl ⟨rfl, fun w' hSw => ?h2_7_8⟩) hS ?_
          case h2_7_8 => (go_simp; first | done | with_reducible rfl)
          simp only [Act.put, List.setIfInBounds_toArray, List.set_cons_zero, List.set_cons_succ]
          refine takeAny 8 (dN := some 35) (v := ?v2_8_9) rfl rfl (by kernel_rfl) (by kernel_rfl) (by kernel_rfl) (fun _ _ _ h => h) (.inl ⟨rfl, fun w' hSw => ?h2_8_9⟩) hS ?_
          case h2_8_9 => (go_simp; first | done | with_reducible rfl)
          simp only [Act.put, List.setIfInBounds_toArray, List.set_cons_zero, List.set_cons_succ]
          refine takeAny 9 (dN := some 36) (v := ?v2_9_10) rfl rfl (by kernel_rfl) (by kernel_rfl) (by kernel_rfl) (fun _ _ _ h => h) (.inl ⟨rfl, fun w' hSw => ?h2_9_10⟩) hS ?_
          case h2_9_10 => (go_simp; first | done | with_reducible rfl)
          simp only [Act.put, List.setIfInBounds_toArray, List.set_cons_zero, List.set_cons_succ]
          refine takeAny 10 (dN := some 37) (v := ?v2_10_11) rfl rfl (by kernel_rfl) (by kernel_rfl) (by kernel_rfl) (fun _ _ _ h => h) (.inl ⟨rfl, fun w' hSw => ?h2_10_11⟩) hS ?_
          case h2_10_11 => (go_simp; first | done | with_reducible rfl)
          simp only [Act.put, List.setIfInBounds_toArray, List.set_cons_zero, List.set_cons_succ]
          refine takeAny 11 (dN := some 38) (v := ?v2_11_12) rfl rfl (by kernel_rfl) (by kernel_rfl) (by kernel_rfl) (fun _ _ _ h => h) (.inl ⟨rfl, fun w' hSw => ?h2_11_12⟩) hS ?_
          case h2_11_12 => (go_simp; first | done | with_reducible rfl)
          simp only [Act.put, List.setIfInBounds_toArray, List.set_cons_zero, List.set_cons_succ]
          refine takeAny 12 (dN := some 39) (v := ?v2_12_13) rfl rfl (by kernel_rfl) (by kernel_rfl) (by kernel_rfl) (fun _ _ _ h => h) (.inl ⟨rfl, fun w' hSw => ?h2_12_13⟩) hS ?_
          case h2_12_13 => (go_simp; first | done | with_reducible rfl)
          simp only [Act.put, List.setIfInBounds_toArray, List.set_cons_zero, List.set_cons_succ]
          refine takeAny 13 (dN := some 40) (v := ?v2_13_14) rfl rfl (by kernel_rfl) (by kernel_rfl) (by kernel_rfl) (fun _ _ _ h => h) (.inl ⟨rfl, fun w' hSw => ?h2_13_14⟩) hS ?_
          case h2_13_14 => (go_simp; first | done | with_reducible rfl)
          simp only [Act.put, List.setIfInBounds_toArray, List.set_cons_zero, List.set_cons_succ]
          refine takeAny 14 (dN := some 41) (v := ?v2_14_15) rfl rfl (by kernel_rfl) (by kernel_rfl) (by kernel_rfl) (fun _ _ _ h => h) (.inl ⟨rfl, fun w' hSw => ?h2_14_15⟩) hS ?_
          case h2_14_15 => (go_simp; first | done | with_reducible rfl)
          simp only [Act.put, List.setIfInBounds_toArray, List.set_cons_zero, List.set_cons_succ]
          refine wpAnyH_ready (rs := [15]) (by kernel_rfl) (by simp) (AllReadyH.cons rfl (fun K hK => ?_) AllReadyH.nil)
          go_simp
          refine hK.out _ _ ⟨celO e0 o1, celO e3 o1⟩ (fun hS => ?_)
          clear hK
          refine wpAnyH_done (by kernel_rfl) ?_ _
          clear e0 e3 e4 f4 x1 x2 hS
          go_wp2
          refine ⟨?_, by simp [intOf]; omega⟩
          have hkk := kAt (k := y) hx1
          have hr2 := hr.next (p := 2 + y * 10 + t) (i := y * 10 + t) (v := v) (Nat.add_assoc _ _ _) (by omega) (by show Lw.mk _ _ (laidC _ _ _ (y * W + x + 1)) = _; unfold laidC mirN srcN; rw [hkk.1, hkk.2, ← HT.out, ← HV.out]; rfl)
          first | exact ⟨x + 1, by omega, by go_num, hr2⟩ | ((repeat (apply Exists.intro)); exact ⟨⟨x + 1, by omega, by go_num, hr2⟩, rfl⟩)
        · have hd2 : decide ((x : Int) < W) = false := by simp; omega
          go_wp2
          refine ⟨?_, by simp [intOf]; omega⟩
          have hr2 : STurnR L (mirL L W H) o w wr ((y + 1) * W) := by rw [show (y + 1) * W = y * W + x by rw [Nat.add_mul]; omega]; exact hr
          first | exact ⟨y + 1, by omega, by go_num, hr2⟩ | ((repeat (apply Exists.intro)); exact ⟨⟨y + 1, by omega, by go_num, hr2⟩, rfl⟩)
    · have hd : decide ((y : Int) < H) = false := by simp; omega
      have e : y * W = W * H := by rw [Nat.mul_comm, show y = H by omega]
      have E := Lib.hid e
      clear e
      go_wp2_with (first | (refine loadRow 42 rfl rfl rfl rfl Try.underlying28 rfl hr.2.2.2.1 (by rw [Lw.size]; exact size28) ?_) | (refine storeRow rfl rfl rfl rfl rfl hr.2.2.1 (by rw [Lw.size]; exact size28) (by simp only [Lw.size]) (Lw.one _) ?_; intro w4 j1 j2 j3 j4))
      exact retRowTmp rfl rfl rfl j1 Try.underlying28 rfl (by rw [Lw.size]; exact size28) rfl ⟨by rw [E.out]; rfl, belT hr.1 j3 (by omega)⟩

set_option maxRecDepth 100000 in
set_option maxHeartbeats 4000000 in
theorem smirrorNo (L : Lw) (hL : Lw.Ok L) (hv : validB L = false) (w : World) :
    Calls Try.prog 13 #[.agg L.cells] w fun e w' => e = .returned (.tuple #[.agg (Lw.cells ⟨0, 0, fun _ => 0⟩), .int .i64 1]) ∧ Below w.heap.size w w' := by
  obtain ⟨hz, hz2⟩ := zero_of_info zeroLw
  have HC := fun (g : Nat) (t : TypeId) (w : World) hg => sOk L hL g t w hg
  rw [hv] at HC
  have HC := Lib.hid HC
  clear hv hL
  go_enter Try.func13, Try.ntmps13
  go_wp2_with (first | (go_at_call 17; refine (HC.out w.heap.size _ _ (blkA (blkN rfl))).mono ?_; rintro e w1 ⟨rfl, hb⟩; have hB1 := belW (belA (belA (Below.refl w.heap.size w))) hb; have h2 : w1.heap[w.heap.size + 1]? = some (.cells (Lw.cells ⟨0, 0, fun _ => 0⟩) 28 (0, 0)) := blkB hb (blkN (by simp)) (by first | (simp; done) | (simp; omega))) | (refine storeRow rfl rfl rfl rfl rfl h2 (by rw [Lw.size]; exact size28) rfl (Lw.one _) ?_; intro w4 j1 j2 j3 j4))
  exact retRowTmp rfl rfl rfl j1 Try.underlying28 rfl (by rw [Lw.size]; exact size28) rfl ⟨rfl, belT hB1 j3 (by omega)⟩
end Go.Proofs.Ytefdnnjnmgnnpaa.L
