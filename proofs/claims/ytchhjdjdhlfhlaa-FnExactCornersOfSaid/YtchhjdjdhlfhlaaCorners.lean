/- Walks: the corners of a lawn. -/
import Derived.Test.YtchhjdjdhlfhlaaGrass
import Derived.Test.YtchhjdjdhlfhlaaAllS
import Derived.Deep.DeepCutAuto
namespace Go.Proofs.Ytchhjdjdhlfhlaa.L
set_option linter.unusedSimpArgs false
set_option linter.unusedVariables false
open Go.RowKit Go.Proofs.Ytchhjdjdhlfhlaa.B

/-- What a corner counts. -/
def cornB (a b c d : Bool) : Int := if (a == d && (b == c && (a != b))) then 2 else if ((a != b) != (c != d)) then 1 else 0
def cornAt (L : Lw) (x y : Int) : Int := cornB (isB L 0 (x - 1) (y - 1)) (isB L 0 x (y - 1)) (isB L 0 (x - 1) y) (isB L 0 x y)
/-- What the first k count. -/
def cornN (L : Lw) (V : Nat) : Nat → Int
  | 0 => 0
  | k + 1 => cornN L V k + cornAt L ((k % V : Nat) : Int) ((k / V : Nat) : Int)
theorem cornB_in (a b c d : Bool) : 0 ≤ cornB a b c d ∧ cornB a b c d ≤ 2 := by cases a <;> cases b <;> cases c <;> cases d <;> decide
theorem cornN_in (L : Lw) (V : Nat) : ∀ k, 0 ≤ cornN L V k ∧ cornN L V k ≤ 2 * k
  | 0 => by simp [cornN]
  | k + 1 => by
    have h := cornN_in L V k
    have h2 := cornB_in (isB L 0 (((k % V : Nat) : Int) - 1) (((k / V : Nat) : Int) - 1)) (isB L 0 ((k % V : Nat) : Int) (((k / V : Nat) : Int) - 1)) (isB L 0 (((k % V : Nat) : Int) - 1) ((k / V : Nat) : Int)) (isB L 0 ((k % V : Nat) : Int) ((k / V : Nat) : Int))
    unfold cornN cornAt
    omega
theorem cornN_at (L : Lw) {V j k : Nat} (hj : j < V) : cornN L V (k * V + j + 1) = cornN L V (k * V + j) + cornAt L j k := by
  rw [cornN, show k * V + j = j + V * k by rw [Nat.mul_comm]; omega, Nat.add_mul_mod_self_left, Nat.mod_eq_of_lt hj, Nat.add_mul_div_left _ _ (by omega), Nat.div_eq_of_lt hj, Nat.zero_add]
def cntL (l : List Bool) (k : Nat) : Int := (((l.take k).countP id : Nat) : Int)
theorem cntL_next {l : List Bool} {k : Nat} (hk : k < l.length) : cntL l (k + 1) = cntL l k + if l.getD k false then 1 else 0 := by
  unfold cntL
  rw [List.take_succ_eq_append_getElem hk, List.countP_append, List.getD_eq_getElem?_getD, List.getElem?_eq_getElem hk]
  cases l[k] <;> simp
theorem cntL_in (l : List Bool) (k : Nat) : 0 ≤ cntL l k ∧ cntL l k ≤ k := by
  unfold cntL
  have := List.countP_le_length (p := id) (l := l.take k)
  rw [List.length_take] at this
  omega
set_option maxHeartbeats 1000000 in
theorem times4 (a b c d : Bool) (g : Nat) (w : World) (hg : w.heap[g]? = some (.cells #[.bool a, .bool b, .bool c, .bool d] 4 (0, 0))) :
    Calls Try.prog 29 #[.slice (some ⟨g, 0, none⟩) 4 4] w fun e w' => e = .returned (.int .i64 (cntL [a, b, c, d] 4)) ∧ w = w' := by
  have HC := Lib.hid (blkC hg)
  clear hg
  go_enter Try.func29, Try.ntmps29
  go_wp2
  go_loop [3, 8] (fun n i => ∃ k : Nat, k ≤ 4 ∧ i = .int .i64 k ∧ n = .int .i64 (cntL [a, b, c, d] k)) (fun _ i => 4 - (intOf i).toNat)
  case atStart => exact ⟨0, by omega, rfl, rfl⟩
  case round =>
    obtain ⟨k, hk, rfl, rfl⟩ := hrel
    have hi := cntL_in [a, b, c, d] k
    by_cases hlt : k < 4
    · have hd : decide ((k : Int) < 4) = true := by simp; omega
      have hc : w.cell? ⟨g, k, none⟩ = some (.bool ([a, b, c, d].getD k false)) := by
        rw [HC.out k]
        match k, hlt with
        | 0, _ => rfl
        | 1, _ => rfl
        | 2, _ => rfl
        | 3, _ => rfl
      have hn := cntL_next (l := [a, b, c, d]) (k := k) hlt
      cases hb : [a, b, c, d].getD k false with
      | false =>
        rw [hb] at hc hn
        have HN := Lib.hid hn
        clear hn hb
        go_wp2
        go_round
        case rel => exact ⟨k + 1, by omega, by go_num, by rw [HN.out]; go_num⟩
        case measure => simp [intOf]; omega
      | true =>
        rw [hb] at hc hn
        have HN := Lib.hid hn
        clear hn hb
        go_wp2
        go_round
        case rel => exact ⟨k + 1, by omega, by go_num, by rw [HN.out]; go_num⟩
        case measure => simp [intOf]; omega
    · have hd : decide ((k : Int) < 4) = false := by simp; omega
      obtain rfl : k = 4 := by omega
      go_wp2
      go_ret
      exact ⟨rfl, rfl⟩
theorem hin {L : Lw} {W H : Nat} (hw : L.wide = W) (hh : L.high = H) (hW : W ≤ 10) (hH : H ≤ 10) (x y : Int) (h : hasB L x y = true) : x < 10 ∧ y < 10 := by
  simp only [hasB, Bool.and_eq_true, decide_eq_true_eq] at h
  omega
def CornR (L : Lw) (w wr : World) : Prop := Below w.heap.size w wr ∧ wr.heap[w.heap.size]? = some (.cells L.cells 30 (0, 0))

theorem cornV {L : Lw} {V m : Nat} {n c : Int} {k : IntKind} (h : cornN L V m = n + c) {v : Int} (hv : v = n + c := by first | rfl | exact (Int.add_zero n).symm) : Value.int k v = Value.int k (cornN L V m) := by rw [h, hv]

set_option maxRecDepth 100000 in
set_option maxHeartbeats 8000000 in
theorem sCornersOk (L : Lw) (hL : Lw.Ok L) (hv : validB L = true) (W H : Nat) (hw : L.wide = W) (hh : L.high = H) (hW1 : 1 ≤ W) (hW : W ≤ 10) (hH1 : 1 ≤ H) (hH : H ≤ 10) (w : World) :
    Calls Try.prog 12 #[.agg L.cells] w fun e w' => e = .returned (.tuple #[.int .i64 (cornN L (W + 1) ((H + 1) * (W + 1))), .int .i64 0]) ∧ Below w.heap.size w w' := by
  have HC := fun (g : Nat) (t : TypeId) (w : World) hg => sOk L hL g t w hg
  rw [hv] at HC
  have HC := Lib.hid HC
  have HG := Lib.hid (fun (x y : Int) (h0 : -128 ≤ x) (h1 : x ≤ 127) (h2 : -128 ≤ y) (h3 : y ≤ 127) (g : Nat) (t : TypeId) (w : World) hg => sGrass L hL x y (hin hw hh hW hH x y) h0 h1 h2 h3 g t w hg)
  have g0 := L.get0
  have g1 := L.get1
  rw [hw] at g0
  rw [hh] at g1
  clear hw hh hv hL
  go_enter Try.func12, Try.ntmps12
  go_wp2_with (first | (go_at_call 27; refine (HC.out w.heap.size _ _ (blkN rfl)).mono ?_; rintro e w1 ⟨rfl, hb⟩; have hB1 := belW (belA (Below.refl w.heap.size w)) hb; have h1 : w1.heap[w.heap.size]? = some (.cells L.cells 30 (0, 0)) := blkB hb (blkN rfl) (by simp)))
  have HR0 := Lib.hid (show CornR L w w1 from ⟨hB1, h1⟩)
  clear hB1 h1 hb
  go_loopw [4, 5] (fun n i wr => ∃ y : Nat, y ≤ H + 1 ∧ i = .int .i8 y ∧ n = .int .i64 (cornN L (W + 1) (y * (W + 1))) ∧ CornR L w wr) (fun _ i _ => H + 1 - (intOf i).toNat)
  case atStart => exact ⟨0, by omega, rfl, by rw [Nat.zero_mul]; rfl, HR0.out⟩
  case round =>
    obtain ⟨y, hy, rfl, rfl, hr⟩ := hrel
    have d1 := (blkC hr.2 1).trans g1
    by_cases hy1 : y < H + 1
    · have hd : decide ((y : Int) ≤ H) = true := by simp; omega
      have hdn : decide (y ≤ H) = true := by simp; omega
      go_wp2
      clear d1
      go_loopw [4, 6] (fun n i wr => ∃ x : Nat, x ≤ W + 1 ∧ i = .int .i8 x ∧ n = .int .i64 (cornN L (W + 1) (y * (W + 1) + x)) ∧ CornR L w wr) (fun _ i _ => W + 1 - (intOf i).toNat)
      case atStart => exact ⟨0, by omega, rfl, rfl, hr⟩
      case round =>
        obtain ⟨x, hx, rfl, rfl, hr⟩ := hrel
        have d0 := (blkC hr.2 0).trans g0
        by_cases hx1 : x < W + 1
        · have hd2 : decide ((x : Int) ≤ W) = true := by simp; omega
          have hd2n : decide (x ≤ W) = true := by simp; omega
          have hnn := cornN_in L (W + 1) (y * (W + 1) + x)
          have hkk : y * (W + 1) ≤ 10 * 11 := Nat.mul_le_mul (by omega) (by omega)
          have hn2 := cornN_at L (V := W + 1) (j := x) (k := y) hx1
          unfold cornAt at hn2
          obtain ⟨n, hn⟩ : ∃ n, n = cornN L (W + 1) (y * (W + 1) + x) := ⟨_, rfl⟩
          rw [← hn] at hnn hn2 ⊢
          have GA := fun (W1 : World) h => HG.out (x - 1) (y - 1) (by omega) (by omega) (by omega) (by omega) w.heap.size 30 W1 h
          have GB := fun (W1 : World) h => HG.out x (y - 1) (by omega) (by omega) (by omega) (by omega) w.heap.size 30 W1 h
          have GC := fun (W1 : World) h => HG.out (x - 1) y (by omega) (by omega) (by omega) (by omega) w.heap.size 30 W1 h
          have GD := fun (W1 : World) h => HG.out x y (by omega) (by omega) (by omega) (by omega) w.heap.size 30 W1 h
          generalize isB L 0 (x - 1) (y - 1) = a at *
          generalize isB L 0 x (y - 1) = b at *
          generalize isB L 0 (x - 1) y = c at *
          generalize isB L 0 x y = d at *
          have GA := Lib.hid GA
          have GB := Lib.hid GB
          have GC := Lib.hid GC
          have GD := Lib.hid GD
          have HN2 := Lib.hid hn2
          have nb0 : 0 ≤ n := hnn.1
          have nb1 : n ≤ 1000 := by omega
          clear hn2 hn hnn
          go_wp2_with fail
          refine (GA.out _ hr.2).mono ?_
          rintro e w1 ⟨rfl, hb⟩
          have r1 : CornR L w w1 := ⟨belW hr.1 hb, blkB hb hr.2 (blkLt hr.2)⟩
          clear hb
          go_wp2_with fail
          refine (GB.out _ r1.2).mono ?_
          rintro e w2 ⟨rfl, hb⟩
          have r2 : CornR L w w2 := ⟨belW r1.1 hb, blkB hb r1.2 (blkLt r1.2)⟩
          clear hb
          go_wp2_with fail
          refine (GC.out _ r2.2).mono ?_
          rintro e w3 ⟨rfl, hb⟩
          have r3 : CornR L w w3 := ⟨belW r2.1 hb, blkB hb r2.2 (blkLt r2.2)⟩
          clear hb
          go_wp2_with fail
          refine (GD.out _ r3.2).mono ?_
          rintro e w4 ⟨rfl, hb⟩
          have r4 : CornR L w w4 := ⟨belW r3.1 hb, blkB hb r3.2 (blkLt r3.2)⟩
          clear hb
          go_upto_region 14 with fail
          clear GA GB GC GD r1 r2 r3
          cases a <;> cases b <;> cases c <;> cases d
          all_goals
            go_wp2
            refine ⟨?_, by simp [intOf]; omega⟩
            first | refine ⟨x + 1, by omega, by go_num, ?_, r4⟩ | ((repeat (apply Exists.intro)); refine ⟨⟨x + 1, by omega, by go_num, ?_, r4⟩, rfl⟩)
            exact cornV HN2.out
        · have hd2 : decide ((x : Int) ≤ W) = false := by simp; omega
          have hd2n : decide (x ≤ W) = false := by simp; omega
          have e : y * (W + 1) + x = (y + 1) * (W + 1) := by rw [Nat.add_mul y 1 (W + 1)]; omega
          have E := Lib.hid e
          clear e
          go_wp2
          refine ⟨?_, by simp [intOf]; omega⟩
          first | exact ⟨y + 1, by omega, by go_num, by rw [E.out], hr⟩ | ((repeat (apply Exists.intro)); exact ⟨⟨y + 1, by omega, by go_num, by rw [E.out], hr⟩, rfl⟩)
    · have hd : decide ((y : Int) ≤ H) = false := by simp; omega
      have hdn : decide (y ≤ H) = false := by simp; omega
      have e : y = H + 1 := by omega
      have E := Lib.hid e
      clear e
      go_wp2
      go_ret2
      exact ⟨by rw [E.out]; rfl, hr.1⟩
end Go.Proofs.Ytchhjdjdhlfhlaa.L
