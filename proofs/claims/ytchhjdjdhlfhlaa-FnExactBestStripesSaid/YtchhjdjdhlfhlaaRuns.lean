/- Walks: the runs of a lawn; the program's. -/
import Derived.Test.YtchhjdjdhlfhlaaGrass
import Derived.Test.YtchhjdjdhlfhlaaSCells
import Derived.Deep.DeepCutAuto
namespace Go.Proofs.Ytchhjdjdhlfhlaa.L
set_option linter.unusedSimpArgs false
set_option linter.unusedVariables false
open Go.RowKit Go.Proofs.Ytchhjdjdhlfhlaa.B

/-- Does a run begin at the k-th cell? -/
def runB (L : Lw) (W : Nat) (dx dy : Int) (k : Nat) : Bool := isB L 0 ((k % W : Nat) : Int) ((k / W : Nat) : Int) && !isB L 0 (((k % W : Nat) : Int) - dx) (((k / W : Nat) : Int) - dy)
theorem hin {L : Lw} {W H : Nat} (hw : L.wide = W) (hh : L.high = H) (hW : W ≤ 10) (hH : H ≤ 10) (x y : Int) (h : hasB L x y = true) : x < 10 ∧ y < 10 := by
  simp only [hasB, Bool.and_eq_true, decide_eq_true_eq] at h
  omega
theorem isB_in {L : Lw} {W H : Nat} (hw : L.wide = W) (hh : L.high = H) (hW : W ≤ 10) (hH : H ≤ 10) {x y : Int} (h : isB L 0 x y = true) : 0 ≤ x ∧ x < 10 ∧ 0 ≤ y ∧ y < 10 := by
  simp only [isB, hasB, Bool.and_eq_true, decide_eq_true_eq] at h
  omega
theorem infoRun : (Try.prog.info? 86).map (fun i => (i.zero, i.size, i.bytes)) = some (some (.agg #[.int .i8 0, .int .i8 0, .int .i8 0]), 3, 3) := by kernel_rfl
theorem threeCells {w : World} {a b c : Value} {t : TypeId} : ∀ (j : Nat) (u : Value), [a, b, c][j]? = some u → (w.alloc (.cells #[a, b, c] t)).cell? ((⟨w.heap.size, 0, none⟩ : Addr).add j) = some u := by
  intro j u h
  match j, h with
  | 0, h => simp at h; subst h; exact (blkC (blkN rfl) 0).trans rfl
  | 1, h => simp at h; subst h; exact (blkC (blkN rfl) 1).trans rfl
  | 2, h => simp at h; subst h; exact (blkC (blkN rfl) 2).trans rfl
  | j + 3, h => simp at h
theorem threeOne {k1 k2 k3 : IntKind} {a b c : Int} : ∀ u ∈ [Value.int k1 a, Value.int k2 b, Value.int k3 c], u.oneCell' = true := by
  intro u hu
  simp only [List.mem_cons, List.not_mem_nil, or_false] at hu
  rcases hu with rfl | rfl | rfl <;> rfl
/-- The state at the head of a round: so many runs are laid. -/
def RunR (L : Lw) (gl g B : Nat) (t : TypeId) (cur : Array Value) (w wr : World) (v : Value) (m : Nat) : Prop :=
  (∃ xs, wr.ownsRow B 86 3 v m xs) ∧ Below w.heap.size w wr ∧ wr.heap[gl]? = some (.cells L.cells t (0, 0)) ∧ wr.heap[g]? = some (.cells cur 44 (0, 0)) ∧ v.ownBlock ≠ some g ∧ gl < B ∧ w.heap.size ≤ B
theorem RunR.below {L : Lw} {gl g B : Nat} {t : TypeId} {cur : Array Value} {w wr w1 : World} {v : Value} {m : Nat} (h : RunR L gl g B t cur w wr v m) (hb : Below wr.heap.size wr w1) : RunR L gl g B t cur w w1 v m := by
  obtain ⟨⟨xs, h1⟩, h2, h3, h4, h5, h6⟩ := h
  refine ⟨⟨xs, h1.1, ?_⟩, belW h2 hb, blkB hb h3 (blkLt h3), blkB hb h4 (blkLt h4), h5, h6⟩
  rcases h1.2 with hn | ⟨b, cap, cu, hv, hB, hg, rest⟩
  · exact .inl hn
  · exact .inr ⟨b, cap, cu, hv, hB, blkB hb hg (blkLt hg), rest⟩
theorem RunR.put {L : Lw} {gl g B : Nat} {t : TypeId} {cur : Array Value} {w wr w1 : World} {v v1 : Value} {m : Nat} {o : Obj} {xs : List Value} (h : RunR L gl g B t cur w wr v m) (ho : w1.ownsRow B 86 3 v1 (m + 1) xs) (hg : (wr.alloc o).grownBy w1 v.ownBlock) (hat : v1.ownBlock = v.ownBlock ∨ v1.ownBlock = some (wr.alloc o).heap.size) : RunR L gl g B t cur w w1 v1 (m + 1) := by
  obtain ⟨⟨ys, h1⟩, h2, h3, h4, h5, h6, h7⟩ := h
  refine ⟨⟨xs, ho⟩, ?_, ?_, ?_, ?_, h6, h7⟩
  · refine Below.trans (belA h2) ⟨hg.os, hg.tape, hg.output, hg.size, fun i hi => ?_⟩
    exact hg.block i (Nat.lt_of_lt_of_le hi (belA h2 (o := o)).size) (ownB h1 (by omega))
  · exact (hg.block gl (Nat.lt_trans (blkLt h3) (by simp)) (ownB h1 h6)).trans (blkA h3)
  · exact (hg.block g (Nat.lt_trans (blkLt h4) (by simp)) (fun e => h5 e.symm)).trans (blkA h4)
  · rcases hat with e | e
    · rw [e]; exact h5
    · rw [e]
      intro e2
      injection e2 with e2
      have := blkLt h4
      simp at e2
      omega
theorem pairRow {w : World} {g o : Nat} {t : TypeId} {cs : Array Value} (h : w.heap[g]? = some (.cells cs t (0, 0))) {a : Value} (ha : cs[o]? = some a) : w.cell? ⟨g, o, none⟩ = some a := (blkC h o).trans ha
theorem atDst {P : Program} {ops : Array Oper} {rest : List Oper} {o : Oper} {a : Act} {Q : Exit → Act → World → Prop} {W : World} (N : Tmp) (_hN : o.dst = some N) (h : wpList P ops Q (o :: rest) a W) : wpList P ops Q (o :: rest) a W := h
/-- So many runs come back. -/
def RunsOut (n : Nat) (w : World) (e : Ending) (w' : World) : Prop := (∃ a cap, e = .returned (.slice a n cap)) ∧ Below w.heap.size w w'
theorem RunR.out {L : Lw} {gl g B : Nat} {t : TypeId} {cur : Array Value} {w wr : World} {v : Value} {m : Nat} (h : RunR L gl g B t cur w wr v m) : RunsOut m w (.returned v) wr := by
  obtain ⟨⟨xs, h1⟩, h2, _⟩ := h
  refine ⟨?_, h2⟩
  rcases h1.2 with ⟨hv, hm⟩ | ⟨b, cap, cu, hv, _⟩
  · exact ⟨none, 0, by rw [hv, hm]⟩
  · exact ⟨_, cap, by rw [hv]⟩

set_option maxRecDepth 100000 in
set_option maxHeartbeats 2000000 in
theorem runsA (L : Lw) (hL : Lw.Ok L) (W H : Nat) (hw : L.wide = W) (hh : L.high = H) (hW1 : 1 ≤ W) (hW : W ≤ 10) (hH1 : 1 ≤ H) (hH : H ≤ 10) (w : World) :
    Calls Try.prog 40 #[.agg L.cells, .bool true] w (RunsOut (keepL (runB L W 1 0) (W * H)).length w) := by
  obtain ⟨i0, hi, hz0, hz1, hz2⟩ := info_parts infoRun
  obtain ⟨N, hN⟩ : ∃ N, N = W * H := ⟨_, rfl⟩
  have hWH : W * H ≤ 10 * 10 := Nat.mul_le_mul hW hH
  have hWH1 : 1 * 1 ≤ W * H := Nat.mul_le_mul hW1 hH1
  have HA := fun (w : World) => all L W H hw hh hW hH w
  rw [← hN] at HA hWH hWH1 ⊢
  have HA := Lib.hid HA
  have HN := Lib.hid hN
  have HG := Lib.hid (fun (x y : Int) (w : World) => grass L hL x y (hin hw hh hW hH x y) w)
  have HIN := Lib.hid (fun (x y : Int) (h : isB L 0 x y = true) => isB_in hw hh hW hH h)
  clear hL hN hw hh
  go_enter Try.func40, Try.ntmps40
  go_wp2_with (first | ((with_reducible refine atDst 14 rfl ?_); refine loadRow 14 rfl rfl rfl rfl Try.underlying30 rfl (blkA (blkN rfl)) (by rw [Lw.size]; exact size28) ?_) | (go_at_call 56; refine (HA.out _).mono ?_; rintro e w3 ⟨u, rfl, ho, hb3⟩; obtain ⟨g, cap, cur, rfl, hg1, hg2, hg3⟩ := ownAt ho (by omega)))
  have hR0 : RunR L w.heap.size g (w.heap.size + 1) 30 cur w w3 (.slice (some ⟨w.heap.size + 1, 0, none⟩) 0 0) 0 := by
    refine ⟨⟨[], rfl, .inr ⟨w.heap.size + 1, 0, #[], rfl, Nat.le_refl _, blkB hb3 (blkN (by simp)) (by simp), Nat.le_refl _, by simp [maxLen], rfl, rfl⟩⟩, belW (belA (belA (Below.refl _ _))) hb3, blkB hb3 (blkA (blkN rfl)) (by first | (simp; done) | (simp; omega)), hg2, ?_, by omega, by omega⟩
    have : w.heap.size + 1 + 1 ≤ g := by simpa using hg1
    simp [Value.ownBlock]; omega
  have HR0 := Lib.hid hR0
  have HG3 := Lib.hid hg3
  clear hR0 hg3 hg1 hg2 ho hb3
  go_loopw [5, 17] (fun v i wr => ∃ k : Nat, k ≤ N ∧ i = .int .i64 k ∧ RunR L w.heap.size g (w.heap.size + 1) 30 cur w wr v (keepL (runB L W 1 0) k).length) (fun _ i _ => N - (intOf i).toNat)
  case atStart => exact ⟨0, by omega, rfl, HR0.out⟩
  case round =>
    obtain ⟨k, hk, rfl, hr⟩ := hrel
    by_cases hlt : k < N
    · have hd : decide ((k : Int) < N) = true := by simp; omega
      have hdn : decide (k < N) = true := by simp; omega
      obtain ⟨x, y, hx, hy, hx1, hy1⟩ := cellRound (W := W) (H := H) (k := k) (by rw [← HN.out]; exact hlt)
      obtain ⟨q0, q1⟩ := HG3.out k hlt
      rw [hx] at q0
      rw [hy] at q1
      have r0 := (blkC hr.2.2.2.1 (k * 2)).trans q0
      have r1 := (blkC hr.2.2.2.1 (k * 2 + 1)).trans q1
      have hrb : runB L W 1 0 k = (isB L 0 x y && !isB L 0 (x - 1) y) := by unfold runB; rw [hx, hy, Int.sub_zero]
      have hlen := keepL_le (runB L W 1 0) k
      have hks := keepL_succ (runB L W 1 0) k
      have HRB := Lib.hid hrb
      have HKS := Lib.hid hks
      clear hx hy q0 q1 hrb hks
      have HG1 := fun (w : World) => HG.out x y w
      have HG2 := fun (w : World) => HG.out (x - 1) y w
      have hrA := hr.below (belA (Below.refl _ _) (o := .cells #[.int .i8 x, .int .i8 y] 44))
      have hcA : (wr.alloc (.cells #[.int .i8 x, .int .i8 y] 44)).heap[wr.heap.size]? = some (.cells #[.int .i8 x, .int .i8 y] 44 (0, 0)) := blkN rfl
      have HCA := Lib.hid hcA
      clear hcA
      rcases twoways (isB L 0 x y) with b1 | b1
      · rw [b1] at HG1
        have hno : runB L W 1 0 k = false := by rw [HRB.out, b1]; rfl
        have HNO := Lib.hid hno
        have HG1 := Lib.hid HG1
        clear HG2 b1 hno
        go_wp2_with (first | ((with_reducible refine atDst 21 rfl ?_); refine loadRow 21 rfl rfl rfl rfl Try.underlying30 rfl (blkA hr.2.2.1) (by rw [Lw.size]; exact size28) ?_) | (go_at_call 25; refine (HG1.out _).mono ?_; rintro e w4 ⟨rfl, hb4⟩; have hr4 := hrA.below hb4))
        refine ⟨?_, by simp [intOf]; omega⟩
        have hr5 : RunR L w.heap.size g (w.heap.size + 1) 30 cur w w4 u5 (keepL (runB L W 1 0) (k + 1)).length := by rw [HKS.out, HNO.out]; simpa using hr4
        first | exact ⟨k + 1, by omega, by go_num, hr5⟩ | ((repeat (apply Exists.intro)); exact ⟨⟨k + 1, by omega, by go_num, hr5⟩, rfl⟩)
      · rw [b1] at HG1
        have HG1 := Lib.hid HG1
        have x1 : IntKind.i8.wrap ((x : Int) - 1) = (x : Int) - 1 := i8_in (by omega) (by omega)
        rcases twoways (isB L 0 (x - 1) y) with b2 | b2
        · rw [b2] at HG2
          have hyes : runB L W 1 0 k = true := by rw [HRB.out, b1, b2]; rfl
          have HYES := Lib.hid hyes
          have HG2 := Lib.hid HG2
          clear b1 b2 hyes
          go_wp2_with (first | ((with_reducible refine atDst 21 rfl ?_); refine loadRow 21 rfl rfl rfl rfl Try.underlying30 rfl (blkA hr.2.2.1) (by rw [Lw.size]; exact size28) ?_) | (go_at_call 25; refine (HG1.out _).mono ?_; rintro e w4 ⟨rfl, hb4⟩; have hr4 := hrA.below hb4; have hc4 := blkB hb4 HCA.out (blkLt HCA.out); have c0 := pairRow hc4 (o := 0) rfl; have c1 := pairRow hc4 (o := 1) rfl; clear HG1; clear hc4) | ((with_reducible refine atDst 26 rfl ?_); refine loadRowG 26 rfl rfl rfl rfl Try.underlying30 rfl hr4.2.2.1 (by rw [Lw.size]; exact size28) ?_) | (go_at_call 25; refine (HG2.out _).mono ?_; rintro e w5 ⟨rfl, hb5⟩; have hr5 := hr4.below hb5))
          have HC5 := Lib.hid (blkB hb5 (blkB hb4 HCA.out (blkLt HCA.out)) (blkLt (blkB hb4 HCA.out (blkLt HCA.out))))
          clear c0 c1 r0 r1
          obtain ⟨c, hc⟩ : ∃ c, c = wr.heap.size := ⟨_, rfl⟩
          rw [← hc] at HC5 ⊢
          clear hc
          obtain ⟨m, hm⟩ : ∃ m, m = (keepL (runB L W 1 0) k).length := ⟨_, rfl⟩
          have hr5' := hr5
          rw [← hm] at hr5' hlen
          have HM := Lib.hid hm
          have HR5 := Lib.hid hr5'
          clear hr5 hr5' hr4 hm hrA hr hb4 hb5 HCA HG2 x1
          go_loopw [10] (fun n wr => ∃ q : Nat, q ≤ 10 ∧ n = .int .i8 q ∧ RunR L w.heap.size g (w.heap.size + 1) 30 cur w wr u5 m ∧ wr.heap[c]? = some (.cells #[.int .i8 x, .int .i8 y] 44 (0, 0))) (fun n _ => 10 - (intOf n).toNat)
          case atStart => exact ⟨0, by omega, rfl, HR5.out, HC5.out⟩
          case round =>
            obtain ⟨q, hq, rfl, hr, hcc⟩ := hrel
            have c0 := pairRow hcc (o := 0) rfl
            have c1 := pairRow hcc (o := 1) rfl
            have HCC := Lib.hid hcc
            clear hcc
            have HGq := fun (w : World) => HG.out (x + q) y w
            rcases twoways (isB L 0 (x + q) y) with b3 | b3
            · rw [b3] at HGq
              have HGq := Lib.hid HGq
              clear b3
              go_wp2_with (first | ((with_reducible refine atDst 38 rfl ?_); refine loadRow 38 rfl rfl rfl rfl Try.underlying30 rfl hr.2.2.1 (by rw [Lw.size]; exact size28) ?_) | (go_at_call 25; refine (HGq.out _).mono ?_; rintro e w6 ⟨rfl, hb6⟩; have hr6 := hr.below hb6; have hc6 := blkB hb6 HCC.out (blkLt HCC.out); have d0 := pairRow hc6 (o := 0) rfl; have d1 := pairRow hc6 (o := 1) rfl; clear hc6) | (at_builtin; obtain ⟨ys, hown⟩ := hr6.1; refine wpList_append_own_at _ rfl _ _ 68 rfl (w.heap.size + 1) 86 i0 (.agg #[.int .i8 0, .int .i8 0, .int .i8 0]) 3 3 Try.underlying68 hi hz0 hz1 hz2 rfl (by decide) _ _ _ rfl (hown.alloc _) ⟨_, 0, none⟩ 1 1 [.int .i8 x, .int .i8 y, .int .i8 q] rfl rfl threeCells threeOne (by simp only [maxLen]; omega) (by omega) (by have := blkLt hr6.2.2.1; simp; omega) ?_; intro v1 w7 hown1 hgrow1 _ hat1))
              refine ⟨?_, by simp [intOf]; omega⟩
              have hr7 : RunR L w.heap.size g (w.heap.size + 1) 30 cur w w7 v1 (keepL (runB L W 1 0) (k + 1)).length := by rw [HKS.out, HYES.out, if_pos rfl, List.length_append, ← HM.out]; exact hr6.put hown1 hgrow1 hat1
              first | exact ⟨k + 1, by omega, by go_num, hr7⟩ | ((repeat (apply Exists.intro)); exact ⟨⟨k + 1, by omega, by go_num, hr7⟩, rfl⟩)
            · have hb := HIN.out _ _ b3
              rw [b3] at HGq
              have HGq := Lib.hid HGq
              clear b3
              go_wp2_with (first | ((with_reducible refine atDst 38 rfl ?_); refine loadRow 38 rfl rfl rfl rfl Try.underlying30 rfl hr.2.2.1 (by rw [Lw.size]; exact size28) ?_) | (go_at_call 25; refine (HGq.out _).mono ?_; rintro e w6 ⟨rfl, hb6⟩; have hr6 := hr.below hb6; have hc6 := blkB hb6 HCC.out (blkLt HCC.out)))
              refine ⟨?_, by simp [intOf]; omega⟩
              first | exact ⟨q + 1, by omega, by go_num, hr6, hc6⟩ | ((repeat (apply Exists.intro)); exact ⟨⟨q + 1, by omega, by go_num, hr6, hc6⟩, rfl⟩)
        · rw [b2] at HG2
          have hno : runB L W 1 0 k = false := by rw [HRB.out, b1, b2]; rfl
          have HNO := Lib.hid hno
          have HG2 := Lib.hid HG2
          clear b1 b2 hno
          go_wp2_with (first | ((with_reducible refine atDst 21 rfl ?_); refine loadRow 21 rfl rfl rfl rfl Try.underlying30 rfl (blkA hr.2.2.1) (by rw [Lw.size]; exact size28) ?_) | (go_at_call 25; refine (HG1.out _).mono ?_; rintro e w4 ⟨rfl, hb4⟩; have hr4 := hrA.below hb4; have hc4 := blkB hb4 HCA.out (blkLt HCA.out); have c0 := pairRow hc4 (o := 0) rfl; have c1 := pairRow hc4 (o := 1) rfl; clear HG1; clear hc4) | ((with_reducible refine atDst 26 rfl ?_); refine loadRowG 26 rfl rfl rfl rfl Try.underlying30 rfl hr4.2.2.1 (by rw [Lw.size]; exact size28) ?_) | (go_at_call 25; refine (HG2.out _).mono ?_; rintro e w5 ⟨rfl, hb5⟩; have hr5 := hr4.below hb5))
          refine ⟨?_, by simp [intOf]; omega⟩
          have hr6 : RunR L w.heap.size g (w.heap.size + 1) 30 cur w w5 u5 (keepL (runB L W 1 0) (k + 1)).length := by rw [HKS.out, HNO.out]; simpa using hr5
          first | exact ⟨k + 1, by omega, by go_num, hr6⟩ | ((repeat (apply Exists.intro)); exact ⟨⟨k + 1, by omega, by go_num, hr6⟩, rfl⟩)
    · have hd : decide ((k : Int) < N) = false := by simp; omega
      have hdn : decide (k < N) = false := by simp; omega
      have e : k = N := by omega
      have E := Lib.hid e
      clear e
      go_wp2
      go_ret
      rw [← E.out]
      exact hr.out

set_option maxRecDepth 100000 in
set_option maxHeartbeats 2000000 in
theorem runsD (L : Lw) (hL : Lw.Ok L) (W H : Nat) (hw : L.wide = W) (hh : L.high = H) (hW1 : 1 ≤ W) (hW : W ≤ 10) (hH1 : 1 ≤ H) (hH : H ≤ 10) (w : World) :
    Calls Try.prog 40 #[.agg L.cells, .bool false] w (RunsOut (keepL (runB L W 0 1) (W * H)).length w) := by
  obtain ⟨i0, hi, hz0, hz1, hz2⟩ := info_parts infoRun
  obtain ⟨N, hN⟩ : ∃ N, N = W * H := ⟨_, rfl⟩
  have hWH : W * H ≤ 10 * 10 := Nat.mul_le_mul hW hH
  have hWH1 : 1 * 1 ≤ W * H := Nat.mul_le_mul hW1 hH1
  have HA := fun (w : World) => all L W H hw hh hW hH w
  rw [← hN] at HA hWH hWH1 ⊢
  have HA := Lib.hid HA
  have HN := Lib.hid hN
  have HG := Lib.hid (fun (x y : Int) (w : World) => grass L hL x y (hin hw hh hW hH x y) w)
  have HIN := Lib.hid (fun (x y : Int) (h : isB L 0 x y = true) => isB_in hw hh hW hH h)
  clear hL hN hw hh
  go_enter Try.func40, Try.ntmps40
  go_wp2_with (first | ((with_reducible refine atDst 14 rfl ?_); refine loadRow 14 rfl rfl rfl rfl Try.underlying30 rfl (blkA (blkN rfl)) (by rw [Lw.size]; exact size28) ?_) | (go_at_call 56; refine (HA.out _).mono ?_; rintro e w3 ⟨u, rfl, ho, hb3⟩; obtain ⟨g, cap, cur, rfl, hg1, hg2, hg3⟩ := ownAt ho (by omega)))
  have hR0 : RunR L w.heap.size g (w.heap.size + 1) 30 cur w w3 (.slice (some ⟨w.heap.size + 1, 0, none⟩) 0 0) 0 := by
    refine ⟨⟨[], rfl, .inr ⟨w.heap.size + 1, 0, #[], rfl, Nat.le_refl _, blkB hb3 (blkN (by simp)) (by simp), Nat.le_refl _, by simp [maxLen], rfl, rfl⟩⟩, belW (belA (belA (Below.refl _ _))) hb3, blkB hb3 (blkA (blkN rfl)) (by first | (simp; done) | (simp; omega)), hg2, ?_, by omega, by omega⟩
    have : w.heap.size + 1 + 1 ≤ g := by simpa using hg1
    simp [Value.ownBlock]; omega
  have HR0 := Lib.hid hR0
  have HG3 := Lib.hid hg3
  clear hR0 hg3 hg1 hg2 ho hb3
  go_loopw [5, 17] (fun v i wr => ∃ k : Nat, k ≤ N ∧ i = .int .i64 k ∧ RunR L w.heap.size g (w.heap.size + 1) 30 cur w wr v (keepL (runB L W 0 1) k).length) (fun _ i _ => N - (intOf i).toNat)
  case atStart => exact ⟨0, by omega, rfl, HR0.out⟩
  case round =>
    obtain ⟨k, hk, rfl, hr⟩ := hrel
    by_cases hlt : k < N
    · have hd : decide ((k : Int) < N) = true := by simp; omega
      have hdn : decide (k < N) = true := by simp; omega
      obtain ⟨x, y, hx, hy, hx1, hy1⟩ := cellRound (W := W) (H := H) (k := k) (by rw [← HN.out]; exact hlt)
      obtain ⟨q0, q1⟩ := HG3.out k hlt
      rw [hx] at q0
      rw [hy] at q1
      have r0 := (blkC hr.2.2.2.1 (k * 2)).trans q0
      have r1 := (blkC hr.2.2.2.1 (k * 2 + 1)).trans q1
      have hrb : runB L W 0 1 k = (isB L 0 x y && !isB L 0 x (y - 1)) := by unfold runB; rw [hx, hy, Int.sub_zero]
      have hlen := keepL_le (runB L W 0 1) k
      have hks := keepL_succ (runB L W 0 1) k
      have HRB := Lib.hid hrb
      have HKS := Lib.hid hks
      clear hx hy q0 q1 hrb hks
      have HG1 := fun (w : World) => HG.out x y w
      have HG2 := fun (w : World) => HG.out x (y - 1) w
      have hrA := hr.below (belA (Below.refl _ _) (o := .cells #[.int .i8 x, .int .i8 y] 44))
      have hcA : (wr.alloc (.cells #[.int .i8 x, .int .i8 y] 44)).heap[wr.heap.size]? = some (.cells #[.int .i8 x, .int .i8 y] 44 (0, 0)) := blkN rfl
      have HCA := Lib.hid hcA
      clear hcA
      rcases twoways (isB L 0 x y) with b1 | b1
      · rw [b1] at HG1
        have hno : runB L W 0 1 k = false := by rw [HRB.out, b1]; rfl
        have HNO := Lib.hid hno
        have HG1 := Lib.hid HG1
        clear HG2 b1 hno
        go_wp2_with (first | ((with_reducible refine atDst 21 rfl ?_); refine loadRow 21 rfl rfl rfl rfl Try.underlying30 rfl (blkA hr.2.2.1) (by rw [Lw.size]; exact size28) ?_) | (go_at_call 25; refine (HG1.out _).mono ?_; rintro e w4 ⟨rfl, hb4⟩; have hr4 := hrA.below hb4))
        refine ⟨?_, by simp [intOf]; omega⟩
        have hr5 : RunR L w.heap.size g (w.heap.size + 1) 30 cur w w4 u5 (keepL (runB L W 0 1) (k + 1)).length := by rw [HKS.out, HNO.out]; simpa using hr4
        first | exact ⟨k + 1, by omega, by go_num, hr5⟩ | ((repeat (apply Exists.intro)); exact ⟨⟨k + 1, by omega, by go_num, hr5⟩, rfl⟩)
      · rw [b1] at HG1
        have HG1 := Lib.hid HG1
        have x1 : IntKind.i8.wrap ((y : Int) - 1) = (y : Int) - 1 := i8_in (by omega) (by omega)
        rcases twoways (isB L 0 x (y - 1)) with b2 | b2
        · rw [b2] at HG2
          have hyes : runB L W 0 1 k = true := by rw [HRB.out, b1, b2]; rfl
          have HYES := Lib.hid hyes
          have HG2 := Lib.hid HG2
          clear b1 b2 hyes
          go_wp2_with (first | ((with_reducible refine atDst 21 rfl ?_); refine loadRow 21 rfl rfl rfl rfl Try.underlying30 rfl (blkA hr.2.2.1) (by rw [Lw.size]; exact size28) ?_) | (go_at_call 25; refine (HG1.out _).mono ?_; rintro e w4 ⟨rfl, hb4⟩; have hr4 := hrA.below hb4; have hc4 := blkB hb4 HCA.out (blkLt HCA.out); have c0 := pairRow hc4 (o := 0) rfl; have c1 := pairRow hc4 (o := 1) rfl; clear HG1; clear hc4) | ((with_reducible refine atDst 26 rfl ?_); refine loadRowG 26 rfl rfl rfl rfl Try.underlying30 rfl hr4.2.2.1 (by rw [Lw.size]; exact size28) ?_) | (go_at_call 25; refine (HG2.out _).mono ?_; rintro e w5 ⟨rfl, hb5⟩; have hr5 := hr4.below hb5))
          have HC5 := Lib.hid (blkB hb5 (blkB hb4 HCA.out (blkLt HCA.out)) (blkLt (blkB hb4 HCA.out (blkLt HCA.out))))
          clear c0 c1 r0 r1
          obtain ⟨c, hc⟩ : ∃ c, c = wr.heap.size := ⟨_, rfl⟩
          rw [← hc] at HC5 ⊢
          clear hc
          obtain ⟨m, hm⟩ : ∃ m, m = (keepL (runB L W 0 1) k).length := ⟨_, rfl⟩
          have hr5' := hr5
          rw [← hm] at hr5' hlen
          have HM := Lib.hid hm
          have HR5 := Lib.hid hr5'
          clear hr5 hr5' hr4 hm hrA hr hb4 hb5 HCA HG2 x1
          go_loopw [10] (fun n wr => ∃ q : Nat, q ≤ 10 ∧ n = .int .i8 q ∧ RunR L w.heap.size g (w.heap.size + 1) 30 cur w wr u5 m ∧ wr.heap[c]? = some (.cells #[.int .i8 x, .int .i8 y] 44 (0, 0))) (fun n _ => 10 - (intOf n).toNat)
          case atStart => exact ⟨0, by omega, rfl, HR5.out, HC5.out⟩
          case round =>
            obtain ⟨q, hq, rfl, hr, hcc⟩ := hrel
            have c0 := pairRow hcc (o := 0) rfl
            have c1 := pairRow hcc (o := 1) rfl
            have HCC := Lib.hid hcc
            clear hcc
            have HGq := fun (w : World) => HG.out x (y + q) w
            rcases twoways (isB L 0 x (y + q)) with b3 | b3
            · rw [b3] at HGq
              have HGq := Lib.hid HGq
              clear b3
              go_wp2_with (first | ((with_reducible refine atDst 38 rfl ?_); refine loadRow 38 rfl rfl rfl rfl Try.underlying30 rfl hr.2.2.1 (by rw [Lw.size]; exact size28) ?_) | (go_at_call 25; refine (HGq.out _).mono ?_; rintro e w6 ⟨rfl, hb6⟩; have hr6 := hr.below hb6; have hc6 := blkB hb6 HCC.out (blkLt HCC.out); have d0 := pairRow hc6 (o := 0) rfl; have d1 := pairRow hc6 (o := 1) rfl; clear hc6) | (at_builtin; obtain ⟨ys, hown⟩ := hr6.1; refine wpList_append_own_at _ rfl _ _ 68 rfl (w.heap.size + 1) 86 i0 (.agg #[.int .i8 0, .int .i8 0, .int .i8 0]) 3 3 Try.underlying68 hi hz0 hz1 hz2 rfl (by decide) _ _ _ rfl (hown.alloc _) ⟨_, 0, none⟩ 1 1 [.int .i8 x, .int .i8 y, .int .i8 q] rfl rfl threeCells threeOne (by simp only [maxLen]; omega) (by omega) (by have := blkLt hr6.2.2.1; simp; omega) ?_; intro v1 w7 hown1 hgrow1 _ hat1))
              refine ⟨?_, by simp [intOf]; omega⟩
              have hr7 : RunR L w.heap.size g (w.heap.size + 1) 30 cur w w7 v1 (keepL (runB L W 0 1) (k + 1)).length := by rw [HKS.out, HYES.out, if_pos rfl, List.length_append, ← HM.out]; exact hr6.put hown1 hgrow1 hat1
              first | exact ⟨k + 1, by omega, by go_num, hr7⟩ | ((repeat (apply Exists.intro)); exact ⟨⟨k + 1, by omega, by go_num, hr7⟩, rfl⟩)
            · have hb := HIN.out _ _ b3
              rw [b3] at HGq
              have HGq := Lib.hid HGq
              clear b3
              go_wp2_with (first | ((with_reducible refine atDst 38 rfl ?_); refine loadRow 38 rfl rfl rfl rfl Try.underlying30 rfl hr.2.2.1 (by rw [Lw.size]; exact size28) ?_) | (go_at_call 25; refine (HGq.out _).mono ?_; rintro e w6 ⟨rfl, hb6⟩; have hr6 := hr.below hb6; have hc6 := blkB hb6 HCC.out (blkLt HCC.out)))
              refine ⟨?_, by simp [intOf]; omega⟩
              first | exact ⟨q + 1, by omega, by go_num, hr6, hc6⟩ | ((repeat (apply Exists.intro)); exact ⟨⟨q + 1, by omega, by go_num, hr6, hc6⟩, rfl⟩)
        · rw [b2] at HG2
          have hno : runB L W 0 1 k = false := by rw [HRB.out, b1, b2]; rfl
          have HNO := Lib.hid hno
          have HG2 := Lib.hid HG2
          clear b1 b2 hno
          go_wp2_with (first | ((with_reducible refine atDst 21 rfl ?_); refine loadRow 21 rfl rfl rfl rfl Try.underlying30 rfl (blkA hr.2.2.1) (by rw [Lw.size]; exact size28) ?_) | (go_at_call 25; refine (HG1.out _).mono ?_; rintro e w4 ⟨rfl, hb4⟩; have hr4 := hrA.below hb4; have hc4 := blkB hb4 HCA.out (blkLt HCA.out); have c0 := pairRow hc4 (o := 0) rfl; have c1 := pairRow hc4 (o := 1) rfl; clear HG1; clear hc4) | ((with_reducible refine atDst 26 rfl ?_); refine loadRowG 26 rfl rfl rfl rfl Try.underlying30 rfl hr4.2.2.1 (by rw [Lw.size]; exact size28) ?_) | (go_at_call 25; refine (HG2.out _).mono ?_; rintro e w5 ⟨rfl, hb5⟩; have hr5 := hr4.below hb5))
          refine ⟨?_, by simp [intOf]; omega⟩
          have hr6 : RunR L w.heap.size g (w.heap.size + 1) 30 cur w w5 u5 (keepL (runB L W 0 1) (k + 1)).length := by rw [HKS.out, HNO.out]; simpa using hr5
          first | exact ⟨k + 1, by omega, by go_num, hr6⟩ | ((repeat (apply Exists.intro)); exact ⟨⟨k + 1, by omega, by go_num, hr6⟩, rfl⟩)
    · have hd : decide ((k : Int) < N) = false := by simp; omega
      have hdn : decide (k < N) = false := by simp; omega
      have e : k = N := by omega
      have E := Lib.hid e
      clear e
      go_wp2
      go_ret
      rw [← E.out]
      exact hr.out
end Go.Proofs.Ytchhjdjdhlfhlaa.L
