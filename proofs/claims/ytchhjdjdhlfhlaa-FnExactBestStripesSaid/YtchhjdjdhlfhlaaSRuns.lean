/- Walks: the runs of a lawn; the reference's. -/
import Derived.Test.YtchhjdjdhlfhlaaRuns
namespace Go.Proofs.Ytchhjdjdhlfhlaa.L
set_option linter.unusedSimpArgs false
set_option linter.unusedVariables false
open Go.RowKit Go.Proofs.Ytchhjdjdhlfhlaa.B

/-- The cell before another one. -/
theorem sBackA (x y b : Int) (h0 : -128 ≤ x - b) (h1 : x - b ≤ 127) (w : World) :
    Calls Try.prog 59 #[.agg #[.int .i8 x, .int .i8 y], .bool true, .int .i8 b] w fun e w' => e = .returned (.agg #[.int .i8 (x - b), .int .i8 y]) ∧ Below w.heap.size w w' := by
  have x1 : IntKind.i8.wrap (x - b) = x - b := i8_in h0 h1
  go_enter Try.func59, Try.ntmps59
  go_wp2
  exact retRow rfl rfl (blkN (by simp)) Try.underlying44 rfl (by kernel_rfl) rfl ⟨rfl, belA (belA (Below.refl _ _))⟩
theorem sBackD (x y b : Int) (h0 : -128 ≤ y - b) (h1 : y - b ≤ 127) (w : World) :
    Calls Try.prog 59 #[.agg #[.int .i8 x, .int .i8 y], .bool false, .int .i8 b] w fun e w' => e = .returned (.agg #[.int .i8 x, .int .i8 (y - b)]) ∧ Below w.heap.size w w' := by
  have x1 : IntKind.i8.wrap (y - b) = y - b := i8_in h0 h1
  go_enter Try.func59, Try.ntmps59
  go_wp2
  exact retRow rfl rfl (blkN (by simp)) Try.underlying44 rfl (by kernel_rfl) rfl ⟨rfl, belA (belA (Below.refl _ _))⟩

/-- Does no grass stand before it? -/
def beginB (L : Lw) (W : Nat) (dx dy : Int) (k : Nat) : Bool := !isB L 0 (((k % W : Nat) : Int) - dx) (((k / W : Nat) : Int) - dy)
theorem runs_kept {L : Lw} {W H : Nat} (hw : L.wide = W) (hh : L.high = H) (hW1 : 1 ≤ W) (dx dy : Int) : (keepL (runB L W dx dy) (W * H)).length = ((keepL (ofB L W 0) (W * H)).filter (beginB L W dx dy)).length := by
  unfold keepL
  rw [List.filter_filter]
  congr 1
  apply List.filter_congr
  intro k hk
  have hk := List.mem_range.1 hk
  have h1 : k % W < W := Nat.mod_lt _ (by omega)
  have h2 : k / W < H := Nat.div_lt_of_lt_mul hk
  unfold runB beginB ofB srcN isB
  generalize k % W = a at h1 ⊢
  generalize k / W = b at h2 ⊢
  have h3 : hasB L ((a : Nat) : Int) ((b : Nat) : Int) = true := by
    simp only [hasB, Bool.and_eq_true, decide_eq_true_eq]
    omega
  rw [h3, Int.toNat_natCast, Int.toNat_natCast, Bool.true_and]
  exact Bool.and_comm _ _
theorem kept_in {p : Nat → Bool} {N k : Nat} (h : k ∈ keepL p N) : k < N ∧ p k = true := by
  unfold keepL at h
  simpa using h
theorem kept_cells (W : Nat) : ∀ (G : List Nat) (i b : Nat) (hi : i < G.length), b < 2 → (G.flatMap (cellV W))[i * 2 + b]? = (cellV W G[i])[b]?
  | [], i, b, hi, _ => by simp at hi
  | k :: G, 0, b, _, hb => by
    rw [List.flatMap_cons, List.getElem?_append_left (by simp [cellV]; omega)]
    simp
  | k :: G, i + 1, b, hi, hb => by
    rw [List.flatMap_cons, List.getElem?_append_right (by simp [cellV]; omega)]
    have := kept_cells W G i b (by simpa using hi) hb
    rw [show (i + 1) * 2 + b - (cellV W k).length = i * 2 + b by simp [cellV]; omega, this]
    rfl
/-- A slice of cells that are kept, read at its block. -/
theorem kept_at {w : World} {B W n : Nat} {v : Value} {xs : List Value} (h : w.ownsRow B 44 2 v n xs) : ∃ a cap, v = .slice a n cap ∧ (0 < n → ∃ g cur, a = some ⟨g, 0, none⟩ ∧ B ≤ g ∧ w.heap[g]? = some (.cells cur 44 (0, 0)) ∧ ∀ i, i < n * 2 → cur[i]? = xs[i]?) := by
  rcases h.2 with ⟨hv, hn⟩ | ⟨g, cap, cur, hv, hB, hg, _, _, _, ht⟩
  · exact ⟨none, 0, by rw [hv, hn], fun h => by omega⟩
  · refine ⟨_, cap, hv, fun _ => ⟨g, cur, rfl, hB, hg, fun i hi => ?_⟩⟩
    rw [← ht, List.getElem?_take, if_pos hi]; simp

theorem RunR.set {L : Lw} {gl g B r : Nat} {t : TypeId} {cur : Array Value} {w wr : World} {v u : Value} {m o : Nat} (h : RunR L gl g B t cur w wr v m) (h1 : r ≠ g) (h2 : r ≠ gl) (h3 : w.heap.size ≤ r) (h4 : ∀ b, v.ownBlock = some b → b ≠ r) : RunR L gl g B t cur w (wr.setCell ⟨r, o, none⟩ u) v m := by
  obtain ⟨⟨xs, a1⟩, a2, a3, a4, a5, a6⟩ := h
  refine ⟨⟨xs, a1.1, ?_⟩, belS a2 (p := ⟨r, o, none⟩) h3, blkO a3 (p := ⟨r, o, none⟩) (fun e => h2 e.symm), blkO a4 (p := ⟨r, o, none⟩) (fun e => h1 e.symm), a5, a6⟩
  rcases a1.2 with hn | ⟨b, cap, cu, hv, hB, hg, rest⟩
  · exact .inl hn
  · exact .inr ⟨b, cap, cu, hv, hB, blkO hg (p := ⟨r, o, none⟩) (h4 b (by rw [hv]; rfl)), rest⟩

set_option maxRecDepth 100000 in
set_option maxHeartbeats 2000000 in
theorem sRunsA (L : Lw) (hL : Lw.Ok L) (W H : Nat) (hw : L.wide = W) (hh : L.high = H) (hW1 : 1 ≤ W) (hW : W ≤ 10) (hH1 : 1 ≤ H) (hH : H ≤ 10) (gl : Nat) (t : TypeId) (w : World) (hl : w.heap[gl]? = some (.cells L.cells t (0, 0))) :
    Calls Try.prog 37 #[.pointer (some ⟨gl, 0, none⟩), .bool true] w (RunsOut (keepL (runB L W 1 0) (W * H)).length w) := by
  obtain ⟨i0, hi, hz0, hz1, hz2⟩ := info_parts infoRun
  have hWH : W * H ≤ 10 * 10 := Nat.mul_le_mul hW hH
  have HA := Lib.hid (fun (g : Nat) (t : TypeId) (w : World) h => sCells L hL W H hw hh hW1 hW hH1 hH 0 g t w h)
  have HG := Lib.hid (fun (x y : Int) (h0 : -128 ≤ x) (h1 : x ≤ 127) (h2 : -128 ≤ y) (h3 : y ≤ 127) (w : World) hg => sGrass L hL x y (hin hw hh hW hH x y) h0 h1 h2 h3 gl t w hg)
  have HIN := Lib.hid (fun (x y : Int) (h : isB L 0 x y = true) => isB_in hw hh hW hH h)
  have HLL := Lib.hid hl
  have ll := blkLt hl
  have hrl : (keepL (runB L W 1 0) (W * H)).length = ((keepL (ofB L W 0) (W * H)).filter (beginB L W 1 0)).length := runs_kept hw hh hW1 1 0
  rw [hrl]
  have HMEM := Lib.hid (show ∀ k, k ∈ keepL (ofB L W 0) (W * H) → k < W * H from fun k hk => (kept_in hk).1)
  have HCV := Lib.hid (kept_cells W (keepL (ofB L W 0) (W * H)))
  have hGl : (keepL (ofB L W 0) (W * H)).length ≤ 100 := Nat.le_trans (keepL_le (ofB L W 0) (W * H)) hWH
  clear hL hw hh hl hrl
  go_enter Try.func37, Try.ntmps37
  go_wp2_with fail
  refine (HA.out gl t _ (blkA HLL.out)).mono ?_
  rintro e w3 ⟨u, rfl, ho, hb3⟩
  obtain ⟨a, cap, rfl, hcell⟩ := kept_at (W := W) ho
  unfold keptV at hcell
  have HCELL := Lib.hid hcell
  generalize keepL (ofB L W 0) (W * H) = G at *
  obtain ⟨n, hn⟩ : ∃ n, n = G.length := ⟨_, rfl⟩
  have HNN := Lib.hid hn
  rw [← hn] at hGl ⊢
  clear hcell ho hn
  have hB3 := belW (belA (Below.refl w.heap.size w)) hb3
  rcases Nat.eq_zero_or_pos n with h0 | h0
  · have hf : (G.filter (beginB L W 1 0)).length = 0 := by
      have := List.length_filter_le (beginB L W 1 0) G
      rw [← HNN.out, h0] at this
      omega
    have HF := Lib.hid hf
    rw [h0]
    clear hf h0 HCELL
    go_wp2_with fail
    refine wp_loop_rounds 1 ?_
    rw [rounds_succ]
    go_wp2
    go_ret
    rw [HF.out]
    exact ⟨⟨some ⟨w.heap.size, 0, none⟩, 0, rfl⟩, hB3⟩
  have hcell := HCELL.out (by rw [← HNN.out]; exact h0)
  obtain ⟨g, cur, rfl, hg1, hg2, hg3⟩ := hcell
  have hgs : w.heap.size < g := by have : w.heap.size + 1 ≤ g := by simpa using hg1
                                   omega
  have hR0 : RunR L gl g w.heap.size t cur w w3 (.slice (some ⟨w.heap.size, 0, none⟩) 0 0) 0 := by
    refine ⟨⟨[], rfl, .inr ⟨w.heap.size, 0, #[], rfl, Nat.le_refl _, blkB hb3 (blkN rfl) (by simp), Nat.le_refl _, by simp [maxLen], rfl, rfl⟩⟩, hB3, blkB hb3 (blkA HLL.out) (by simp; omega), hg2, by simp [Value.ownBlock]; omega, ll, Nat.le_refl _⟩
  have HR0 := Lib.hid hR0
  have HG3 := Lib.hid hg3
  clear hR0 hg3 hg1 hg2 hb3 hB3 HCELL
  go_wp2_with fail
  go_loopw [5, 7] (fun v i wr => ∃ k : Nat, k ≤ n ∧ i = .int .i64 k ∧ RunR L gl g w.heap.size t cur w wr v ((G.take k).filter (beginB L W 1 0)).length) (fun _ i _ => n - (intOf i).toNat)
  case atStart => exact ⟨0, by omega, rfl, HR0.out⟩
  case round =>
    obtain ⟨i, hk, rfl, hr⟩ := hrel
    by_cases hlt : i < n
    · have hd : decide ((i : Int) < n) = true := by simp; omega
      have hdn : decide (i < n) = true := by simp; omega
      have hiG : i < G.length := by rw [← HNN.out]; exact hlt
      obtain ⟨k, hkk⟩ : ∃ k, k = G[i] := ⟨_, rfl⟩
      have hkN : k < W * H := HMEM.out k (by rw [hkk]; exact List.getElem_mem _)
      obtain ⟨x, y, hx, hy, hx1, hy1⟩ := cellRound hkN
      have q0 : cur[i * 2]? = some (.int .i8 (x : Int)) := by
        have e := HG3.out (i * 2) (by rw [← HNN.out]; omega)
        have e2 := HCV.out i 0 hiG (by omega)
        rw [Nat.add_zero] at e2
        rw [e, e2, ← hkk]; unfold cellV; rw [hx]; rfl
      have q1 : cur[i * 2 + 1]? = some (.int .i8 (y : Int)) := by
        have e := HG3.out (i * 2 + 1) (by rw [← HNN.out]; omega)
        have e2 := HCV.out i 1 hiG (by omega)
        rw [e, e2, ← hkk]; unfold cellV; rw [hy]; rfl
      have r0 := pairRow hr.2.2.2.1 q0
      have r1 := pairRow hr.2.2.2.1 q1
      have hq : beginB L W 1 0 k = !isB L 0 (x - 1) y := by unfold beginB; rw [hx, hy, Int.sub_zero]
      have htk : (G.take (i + 1)).filter (beginB L W 1 0) = (G.take i).filter (beginB L W 1 0) ++ if beginB L W 1 0 k then [k] else [] := by
        rw [List.take_succ_eq_append_getElem hiG, List.filter_append, ← hkk]
        simp only [List.filter_cons, List.filter_nil]
      have hlen : ((G.take i).filter (beginB L W 1 0)).length ≤ i := Nat.le_trans (List.length_filter_le _ _) (by rw [List.length_take]; omega)
      have HQ := Lib.hid hq
      have HTK := Lib.hid htk
      have HQ0 := Lib.hid q0
      have HQ1 := Lib.hid q1
      have HG2 := fun (w : World) h => HG.out (x - 1) y (by omega) (by omega) (by omega) (by omega) w h
      have HB1 := Lib.hid (fun (w : World) => sBackA x y 1 (by omega) (by omega) w)
      clear hx hy q0 q1 hq htk hkk hkN hiG
      rcases twoways (isB L 0 (x - 1) y) with b2 | b2
      · rw [b2] at HG2
        have hyes : beginB L W 1 0 k = true := by rw [HQ.out, b2]; rfl
        have HYES := Lib.hid hyes
        have HG2 := Lib.hid HG2
        clear b2 hyes
        go_wp2_with (first | (go_at_call 59; refine (HB1.out _).mono ?_; rintro e w4 ⟨rfl, hb4⟩; have hr4 := hr.below hb4) | (go_at_call 28; refine (HG2.out _ hr4.2.2.1).mono ?_; rintro e w5 ⟨rfl, hb5⟩; have hr5 := hr4.below hb5; have s0 := pairRow hr5.2.2.2.1 HQ0.out; have s1 := pairRow hr5.2.2.2.1 HQ1.out))
        clear r0 r1 s0 s1 HG2 HB1
        have hr6 := hr5.below (belA (Below.refl _ _) (o := .cells #[.int .i8 x, .int .i8 y, .int .i8 0] 86))
        have hrr6 : (w5.alloc (.cells #[.int .i8 x, .int .i8 y, .int .i8 0] 86)).heap[w5.heap.size]? = some (.cells #[.int .i8 x, .int .i8 y, .int .i8 0] 86 (0, 0)) := blkN rfl
        have hrg : w5.heap.size ≠ g := Nat.ne_of_gt (blkLt hr5.2.2.2.1)
        have hrl : w5.heap.size ≠ gl := Nat.ne_of_gt (blkLt hr5.2.2.1)
        have hrw : w.heap.size ≤ w5.heap.size := hr5.2.1.size
        have hrv : ∀ b, u5.ownBlock = some b → b ≠ w5.heap.size := fun b hb => by
          obtain ⟨ys, ho⟩ := hr5.1
          exact Nat.ne_of_lt (ho.lt b hb).2
        obtain ⟨r, hrr⟩ : ∃ r, r = w5.heap.size := ⟨_, rfl⟩
        rw [← hrr] at hrr6 hrg hrl hrw hrv ⊢
        obtain ⟨m, hm⟩ : ∃ m, m = ((G.take i).filter (beginB L W 1 0)).length := ⟨_, rfl⟩
        rw [← hm] at hr6 hlen
        have HM := Lib.hid hm
        have HR6 := Lib.hid hr6
        have HRR6 := Lib.hid hrr6
        have HRV := Lib.hid hrv
        clear hr6 hrr6 hrr hm hr5 hr4 hr hb4 hb5 hrv
        go_loopg [41] 10 (fun gk v41 wr => ∃ q : Nat, q + gk = 10 ∧ RunR L gl g w.heap.size t cur w wr u5 m ∧ wr.heap[r]? = some (.cells #[.int .i8 x, .int .i8 y, .int .i8 q] 86 (0, 0)))
        case atStart => exact ⟨0, by omega, HR6.out, HRR6.out⟩
        case round =>
          obtain ⟨q, hq, hr, hcc⟩ := hrel
          have HCC := Lib.hid hcc
          clear hcc
          have HGq := fun (w : World) h => HG.out (x + (q : Int)) y (by omega) (by omega) (by omega) (by omega) w h
          have HBq := Lib.hid (fun (w : World) => sBackA x y (-(q : Int)) (by omega) (by omega) w)
          have x2 : IntKind.i8.wrap (-(q : Int)) = -(q : Int) := i8_in (by omega) (by omega)
          obtain ⟨b3, hb3⟩ : ∃ b, b = isB L 0 (x + (q : Int)) y := ⟨_, rfl⟩
          rw [← hb3] at HGq
          have HB3 := Lib.hid hb3
          have HGq := Lib.hid HGq
          clear hb3
          go_wp2
          refine wp_region_held_drew (S := fun w' => Below wr.heap.size wr w' ∧ w'.heap[gl]? = some (.cells L.cells t (0, 0)) ∧ w'.heap[g]? = some (.cells cur 44 (0, 0)) ∧ w'.heap[r]? = some (.cells #[.int .i8 x, .int .i8 y, .int .i8 q] 86 (0, 0))) (by kernel_rfl) ⟨belD (Below.refl _ _), blkD hr.2.2.1, blkD hr.2.2.2.1, blkD HCC.out⟩ (fun hS => ?_)
          refine takeAny 0 (dN := some 31) (v := ?v1_0_1) rfl rfl (by kernel_rfl) (by kernel_rfl) (by kernel_rfl) (fun _ _ _ h => h) (.inl ⟨rfl, fun w' hSw => ?h1_0_1⟩) hS ?_
          case h1_0_1 => (go_simp; first | done | with_reducible rfl)
          simp only [Act.put, List.setIfInBounds_toArray, List.set_cons_zero, List.set_cons_succ]
          refine takeAny 1 (dN := some 32) (v := ?v1_1_2) rfl rfl (by kernel_rfl) (by kernel_rfl) (by kernel_rfl) (fun _ _ _ h => h) (.inl ⟨rfl, fun w' hSw => ?h1_1_2⟩) hS ?_
          case h1_1_2 => (go_simp; first | done | with_reducible rfl)
          simp only [Act.put, List.setIfInBounds_toArray, List.set_cons_zero, List.set_cons_succ]
          refine takeAny 2 (dN := some 33) (v := ?v1_2_3) rfl rfl (by kernel_rfl) (by kernel_rfl) (by kernel_rfl) (fun _ _ _ h => h) (.inl ⟨rfl, fun w' hSw => ?h1_2_3⟩) hS ?_
          case h1_2_3 => (go_simp; first | done | with_reducible rfl)
          simp only [Act.put, List.setIfInBounds_toArray, List.set_cons_zero, List.set_cons_succ]
          refine takeAny 3 (dN := some 34) (v := ?v1_3_4) rfl rfl (by kernel_rfl) (by kernel_rfl) (by kernel_rfl) (fun _ _ _ h => h) (.inl ⟨rfl, fun w' hSw => ?h1_3_4⟩) hS ?_
          case h1_3_4 => (go_simp; first | done | with_reducible rfl)
          simp only [Act.put, List.setIfInBounds_toArray, List.set_cons_zero, List.set_cons_succ]
          refine takeAny 4 (dN := some 35) (v := ?v1_4_5) rfl rfl (by kernel_rfl) (by kernel_rfl) (by kernel_rfl) (fun _ _ _ h => h) (.inl ⟨rfl, fun w' hSw => ?h1_4_5⟩) hS ?_
          case h1_4_5 => ((have y0 := pairRow hSw.2.2.1 HQ0.out); (have y1 := pairRow hSw.2.2.1 HQ1.out); go_simp; first | done | with_reducible rfl)
          simp only [Act.put, List.setIfInBounds_toArray, List.set_cons_zero, List.set_cons_succ]
          refine takeAny 5 (dN := some 36) (v := ?v1_5_6) rfl rfl (by kernel_rfl) (by kernel_rfl) (by kernel_rfl) (fun _ _ _ h => h) (.inl ⟨rfl, fun w' hSw => ?h1_5_6⟩) hS ?_
          case h1_5_6 => (go_simp; first | done | with_reducible rfl)
          simp only [Act.put, List.setIfInBounds_toArray, List.set_cons_zero, List.set_cons_succ]
          refine takeAny 6 (dN := some 37) (v := ?v1_6_7) rfl rfl (by kernel_rfl) (by kernel_rfl) (by kernel_rfl) (fun _ _ _ h => h) (.inl ⟨rfl, fun w' hSw => ?h1_6_7⟩) hS ?_
          case h1_6_7 => (go_simp; first | done | with_reducible rfl)
          simp only [Act.put, List.setIfInBounds_toArray, List.set_cons_zero, List.set_cons_succ]
          refine takeAny 7 (dN := some 38) (v := ?v1_7_8) rfl rfl (by kernel_rfl) (by kernel_rfl) (by kernel_rfl) (fun _ _ _ h => h) (.inl ⟨rfl, fun w' hSw => ?h1_7_8⟩) hS ?_
          case h1_7_8 => ((have y2 : w'.cell? ⟨r, 2, none⟩ = some (.int .i8 q) := pairRow hSw.2.2.2 rfl); go_simp; first | done | with_reducible rfl)
          simp only [Act.put, List.setIfInBounds_toArray, List.set_cons_zero, List.set_cons_succ]
          refine takeAny 8 (dN := some 39) (v := ?v1_8_9) rfl rfl (by kernel_rfl) (by kernel_rfl) (by kernel_rfl) (fun _ _ _ h => h) (.inl ⟨rfl, fun w' hSw => ?h1_8_9⟩) hS ?_
          case h1_8_9 => (go_simp; first | done | with_reducible rfl)
          simp only [Act.put, List.setIfInBounds_toArray, List.set_cons_zero, List.set_cons_succ]
          refine wpAnyH_ready (rs := [9]) (by kernel_rfl) (by simp) (AllReadyH.cons rfl (fun K hK => ?_) AllReadyH.nil)
          go_simp
          go_at_call 59
          refine (HBq.out _).mono ?_
          rintro e w8_9 ⟨rfl, hb⟩
          refine hK.out _ _ ⟨belW hS.1 hb, blkB hb hS.2.1 (blkLt hS.2.1), blkB hb hS.2.2.1 (blkLt hS.2.2.1), blkB hb hS.2.2.2 (blkLt hS.2.2.2)⟩ (fun hS => ?_)
          clear hb hK
          refine wpAnyH_ready (rs := [10]) (by kernel_rfl) (by simp) (AllReadyH.cons rfl (fun K hK => ?_) AllReadyH.nil)
          go_simp
          go_at_call 28
          refine (HGq.out _ hS.2.1).mono ?_
          rintro e w8_10 ⟨rfl, hb⟩
          refine hK.out _ _ ⟨belW hS.1 hb, blkB hb hS.2.1 (blkLt hS.2.1), blkB hb hS.2.2.1 (blkLt hS.2.2.1), blkB hb hS.2.2.2 (blkLt hS.2.2.2)⟩ (fun hS => ?_)
          clear hb hK
          refine wpAnyH_done (by kernel_rfl) ?_ _
          have hr8 := hr.below hS.1
          have hcc8 := hS.2.2.2
          have d0 := pairRow hcc8 (o := 0) rfl
          have d1 := pairRow hcc8 (o := 1) rfl
          have d2 := pairRow hcc8 (o := 2) rfl
          have f2 := blkF hcc8 (i := 2)
          have HCC8 := Lib.hid hcc8
          clear hS hcc8 hr x2
          cases b3 with
          | false =>
            clear f2
            go_wp2_with (at_builtin; obtain ⟨ys, hown⟩ := hr8.1; refine wpList_append_own_at _ rfl _ _ 68 rfl w.heap.size 86 i0 (.agg #[.int .i8 0, .int .i8 0, .int .i8 0]) 3 3 Try.underlying68 hi hz0 hz1 hz2 rfl (by decide) _ _ _ rfl (hown.alloc _) ⟨_, 0, none⟩ 1 1 [.int .i8 x, .int .i8 y, .int .i8 q] rfl rfl threeCells threeOne (by simp only [maxLen]; omega) (by omega) (by have := hr8.2.1.size; simp; omega) ?_; intro v1 w7 hown1 hgrow1 _ hat1)
            refine ⟨?_, by simp [intOf]; omega⟩
            have hr7 : RunR L gl g w.heap.size t cur w w7 v1 ((G.take (i + 1)).filter (beginB L W 1 0)).length := by rw [HTK.out, HYES.out, if_pos rfl, List.length_append, ← HM.out]; exact hr8.put hown1 hgrow1 hat1
            first | exact ⟨i + 1, by omega, by go_num, hr7⟩ | ((repeat (apply Exists.intro)); exact ⟨⟨i + 1, by omega, by go_num, hr7⟩, rfl⟩)
          | true =>
            have hb := HIN.out _ _ HB3.out.symm
            have n0 : (0 : Int) ≤ q := by omega
            have n1 : (q : Int) ≤ 9 := by omega
            go_wp2
            go_roundg (10 - (q + 1))
            case measure => omega
            case rel => exact ⟨q + 1, by omega, hr8.set hrg hrl hrw HRV.out, by have e := blkS (i := 2) (u := .int .i8 ((q : Int) + 1)) HCC8.out; simpa using e⟩
      · rw [b2] at HG2
        have hno : beginB L W 1 0 k = false := by rw [HQ.out, b2]; rfl
        have HNO := Lib.hid hno
        have HG2 := Lib.hid HG2
        clear b2 hno
        go_wp2_with (first | (go_at_call 59; refine (HB1.out _).mono ?_; rintro e w4 ⟨rfl, hb4⟩; have hr4 := hr.below hb4) | (go_at_call 28; refine (HG2.out _ hr4.2.2.1).mono ?_; rintro e w5 ⟨rfl, hb5⟩; have hr5 := hr4.below hb5))
        refine ⟨?_, by simp [intOf]; omega⟩
        have hr6 : RunR L gl g w.heap.size t cur w w5 u5 ((G.take (i + 1)).filter (beginB L W 1 0)).length := by rw [HTK.out, HNO.out]; simpa using hr5
        first | exact ⟨i + 1, by omega, by go_num, hr6⟩ | ((repeat (apply Exists.intro)); exact ⟨⟨i + 1, by omega, by go_num, hr6⟩, rfl⟩)
    · have hd : decide ((i : Int) < n) = false := by simp; omega
      have hdn : decide (i < n) = false := by simp; omega
      have e : G.take i = G := by rw [List.take_of_length_le]; rw [← HNN.out]; omega
      have E := Lib.hid e
      clear e
      go_wp2
      go_ret
      rw [E.out] at hr
      exact hr.out

set_option maxRecDepth 100000 in
set_option maxHeartbeats 2000000 in
theorem sRunsD (L : Lw) (hL : Lw.Ok L) (W H : Nat) (hw : L.wide = W) (hh : L.high = H) (hW1 : 1 ≤ W) (hW : W ≤ 10) (hH1 : 1 ≤ H) (hH : H ≤ 10) (gl : Nat) (t : TypeId) (w : World) (hl : w.heap[gl]? = some (.cells L.cells t (0, 0))) :
    Calls Try.prog 37 #[.pointer (some ⟨gl, 0, none⟩), .bool false] w (RunsOut (keepL (runB L W 0 1) (W * H)).length w) := by
  obtain ⟨i0, hi, hz0, hz1, hz2⟩ := info_parts infoRun
  have hWH : W * H ≤ 10 * 10 := Nat.mul_le_mul hW hH
  have HA := Lib.hid (fun (g : Nat) (t : TypeId) (w : World) h => sCells L hL W H hw hh hW1 hW hH1 hH 0 g t w h)
  have HG := Lib.hid (fun (x y : Int) (h0 : -128 ≤ x) (h1 : x ≤ 127) (h2 : -128 ≤ y) (h3 : y ≤ 127) (w : World) hg => sGrass L hL x y (hin hw hh hW hH x y) h0 h1 h2 h3 gl t w hg)
  have HIN := Lib.hid (fun (x y : Int) (h : isB L 0 x y = true) => isB_in hw hh hW hH h)
  have HLL := Lib.hid hl
  have ll := blkLt hl
  have hrl : (keepL (runB L W 0 1) (W * H)).length = ((keepL (ofB L W 0) (W * H)).filter (beginB L W 0 1)).length := runs_kept hw hh hW1 0 1
  rw [hrl]
  have HMEM := Lib.hid (show ∀ k, k ∈ keepL (ofB L W 0) (W * H) → k < W * H from fun k hk => (kept_in hk).1)
  have HCV := Lib.hid (kept_cells W (keepL (ofB L W 0) (W * H)))
  have hGl : (keepL (ofB L W 0) (W * H)).length ≤ 100 := Nat.le_trans (keepL_le (ofB L W 0) (W * H)) hWH
  clear hL hw hh hl hrl
  go_enter Try.func37, Try.ntmps37
  go_wp2_with fail
  refine (HA.out gl t _ (blkA HLL.out)).mono ?_
  rintro e w3 ⟨u, rfl, ho, hb3⟩
  obtain ⟨a, cap, rfl, hcell⟩ := kept_at (W := W) ho
  unfold keptV at hcell
  have HCELL := Lib.hid hcell
  generalize keepL (ofB L W 0) (W * H) = G at *
  obtain ⟨n, hn⟩ : ∃ n, n = G.length := ⟨_, rfl⟩
  have HNN := Lib.hid hn
  rw [← hn] at hGl ⊢
  clear hcell ho hn
  have hB3 := belW (belA (Below.refl w.heap.size w)) hb3
  rcases Nat.eq_zero_or_pos n with h0 | h0
  · have hf : (G.filter (beginB L W 0 1)).length = 0 := by
      have := List.length_filter_le (beginB L W 0 1) G
      rw [← HNN.out, h0] at this
      omega
    have HF := Lib.hid hf
    rw [h0]
    clear hf h0 HCELL
    go_wp2_with fail
    refine wp_loop_rounds 1 ?_
    rw [rounds_succ]
    go_wp2
    go_ret
    rw [HF.out]
    exact ⟨⟨some ⟨w.heap.size, 0, none⟩, 0, rfl⟩, hB3⟩
  have hcell := HCELL.out (by rw [← HNN.out]; exact h0)
  obtain ⟨g, cur, rfl, hg1, hg2, hg3⟩ := hcell
  have hgs : w.heap.size < g := by have : w.heap.size + 1 ≤ g := by simpa using hg1
                                   omega
  have hR0 : RunR L gl g w.heap.size t cur w w3 (.slice (some ⟨w.heap.size, 0, none⟩) 0 0) 0 := by
    refine ⟨⟨[], rfl, .inr ⟨w.heap.size, 0, #[], rfl, Nat.le_refl _, blkB hb3 (blkN rfl) (by simp), Nat.le_refl _, by simp [maxLen], rfl, rfl⟩⟩, hB3, blkB hb3 (blkA HLL.out) (by simp; omega), hg2, by simp [Value.ownBlock]; omega, ll, Nat.le_refl _⟩
  have HR0 := Lib.hid hR0
  have HG3 := Lib.hid hg3
  clear hR0 hg3 hg1 hg2 hb3 hB3 HCELL
  go_wp2_with fail
  go_loopw [5, 7] (fun v i wr => ∃ k : Nat, k ≤ n ∧ i = .int .i64 k ∧ RunR L gl g w.heap.size t cur w wr v ((G.take k).filter (beginB L W 0 1)).length) (fun _ i _ => n - (intOf i).toNat)
  case atStart => exact ⟨0, by omega, rfl, HR0.out⟩
  case round =>
    obtain ⟨i, hk, rfl, hr⟩ := hrel
    by_cases hlt : i < n
    · have hd : decide ((i : Int) < n) = true := by simp; omega
      have hdn : decide (i < n) = true := by simp; omega
      have hiG : i < G.length := by rw [← HNN.out]; exact hlt
      obtain ⟨k, hkk⟩ : ∃ k, k = G[i] := ⟨_, rfl⟩
      have hkN : k < W * H := HMEM.out k (by rw [hkk]; exact List.getElem_mem _)
      obtain ⟨x, y, hx, hy, hx1, hy1⟩ := cellRound hkN
      have q0 : cur[i * 2]? = some (.int .i8 (x : Int)) := by
        have e := HG3.out (i * 2) (by rw [← HNN.out]; omega)
        have e2 := HCV.out i 0 hiG (by omega)
        rw [Nat.add_zero] at e2
        rw [e, e2, ← hkk]; unfold cellV; rw [hx]; rfl
      have q1 : cur[i * 2 + 1]? = some (.int .i8 (y : Int)) := by
        have e := HG3.out (i * 2 + 1) (by rw [← HNN.out]; omega)
        have e2 := HCV.out i 1 hiG (by omega)
        rw [e, e2, ← hkk]; unfold cellV; rw [hy]; rfl
      have r0 := pairRow hr.2.2.2.1 q0
      have r1 := pairRow hr.2.2.2.1 q1
      have hq : beginB L W 0 1 k = !isB L 0 x (y - 1) := by unfold beginB; rw [hx, hy, Int.sub_zero]
      have htk : (G.take (i + 1)).filter (beginB L W 0 1) = (G.take i).filter (beginB L W 0 1) ++ if beginB L W 0 1 k then [k] else [] := by
        rw [List.take_succ_eq_append_getElem hiG, List.filter_append, ← hkk]
        simp only [List.filter_cons, List.filter_nil]
      have hlen : ((G.take i).filter (beginB L W 0 1)).length ≤ i := Nat.le_trans (List.length_filter_le _ _) (by rw [List.length_take]; omega)
      have HQ := Lib.hid hq
      have HTK := Lib.hid htk
      have HQ0 := Lib.hid q0
      have HQ1 := Lib.hid q1
      have HG2 := fun (w : World) h => HG.out x (y - 1) (by omega) (by omega) (by omega) (by omega) w h
      have HB1 := Lib.hid (fun (w : World) => sBackD x y 1 (by omega) (by omega) w)
      clear hx hy q0 q1 hq htk hkk hkN hiG
      rcases twoways (isB L 0 x (y - 1)) with b2 | b2
      · rw [b2] at HG2
        have hyes : beginB L W 0 1 k = true := by rw [HQ.out, b2]; rfl
        have HYES := Lib.hid hyes
        have HG2 := Lib.hid HG2
        clear b2 hyes
        go_wp2_with (first | (go_at_call 59; refine (HB1.out _).mono ?_; rintro e w4 ⟨rfl, hb4⟩; have hr4 := hr.below hb4) | (go_at_call 28; refine (HG2.out _ hr4.2.2.1).mono ?_; rintro e w5 ⟨rfl, hb5⟩; have hr5 := hr4.below hb5; have s0 := pairRow hr5.2.2.2.1 HQ0.out; have s1 := pairRow hr5.2.2.2.1 HQ1.out))
        clear r0 r1 s0 s1 HG2 HB1
        have hr6 := hr5.below (belA (Below.refl _ _) (o := .cells #[.int .i8 x, .int .i8 y, .int .i8 0] 86))
        have hrr6 : (w5.alloc (.cells #[.int .i8 x, .int .i8 y, .int .i8 0] 86)).heap[w5.heap.size]? = some (.cells #[.int .i8 x, .int .i8 y, .int .i8 0] 86 (0, 0)) := blkN rfl
        have hrg : w5.heap.size ≠ g := Nat.ne_of_gt (blkLt hr5.2.2.2.1)
        have hrl : w5.heap.size ≠ gl := Nat.ne_of_gt (blkLt hr5.2.2.1)
        have hrw : w.heap.size ≤ w5.heap.size := hr5.2.1.size
        have hrv : ∀ b, u5.ownBlock = some b → b ≠ w5.heap.size := fun b hb => by
          obtain ⟨ys, ho⟩ := hr5.1
          exact Nat.ne_of_lt (ho.lt b hb).2
        obtain ⟨r, hrr⟩ : ∃ r, r = w5.heap.size := ⟨_, rfl⟩
        rw [← hrr] at hrr6 hrg hrl hrw hrv ⊢
        obtain ⟨m, hm⟩ : ∃ m, m = ((G.take i).filter (beginB L W 0 1)).length := ⟨_, rfl⟩
        rw [← hm] at hr6 hlen
        have HM := Lib.hid hm
        have HR6 := Lib.hid hr6
        have HRR6 := Lib.hid hrr6
        have HRV := Lib.hid hrv
        clear hr6 hrr6 hrr hm hr5 hr4 hr hb4 hb5 hrv
        go_loopg [41] 10 (fun gk v41 wr => ∃ q : Nat, q + gk = 10 ∧ RunR L gl g w.heap.size t cur w wr u5 m ∧ wr.heap[r]? = some (.cells #[.int .i8 x, .int .i8 y, .int .i8 q] 86 (0, 0)))
        case atStart => exact ⟨0, by omega, HR6.out, HRR6.out⟩
        case round =>
          obtain ⟨q, hq, hr, hcc⟩ := hrel
          have HCC := Lib.hid hcc
          clear hcc
          have HGq := fun (w : World) h => HG.out x (y + (q : Int)) (by omega) (by omega) (by omega) (by omega) w h
          have HBq := Lib.hid (fun (w : World) => sBackD x y (-(q : Int)) (by omega) (by omega) w)
          have x2 : IntKind.i8.wrap (-(q : Int)) = -(q : Int) := i8_in (by omega) (by omega)
          obtain ⟨b3, hb3⟩ : ∃ b, b = isB L 0 x (y + (q : Int)) := ⟨_, rfl⟩
          rw [← hb3] at HGq
          have HB3 := Lib.hid hb3
          have HGq := Lib.hid HGq
          clear hb3
          go_wp2
          refine wp_region_held_drew (S := fun w' => Below wr.heap.size wr w' ∧ w'.heap[gl]? = some (.cells L.cells t (0, 0)) ∧ w'.heap[g]? = some (.cells cur 44 (0, 0)) ∧ w'.heap[r]? = some (.cells #[.int .i8 x, .int .i8 y, .int .i8 q] 86 (0, 0))) (by kernel_rfl) ⟨belD (Below.refl _ _), blkD hr.2.2.1, blkD hr.2.2.2.1, blkD HCC.out⟩ (fun hS => ?_)
          refine takeAny 0 (dN := some 31) (v := ?v2_0_1) rfl rfl (by kernel_rfl) (by kernel_rfl) (by kernel_rfl) (fun _ _ _ h => h) (.inl ⟨rfl, fun w' hSw => ?h2_0_1⟩) hS ?_
          case h2_0_1 => (go_simp; first | done | with_reducible rfl)
          simp only [Act.put, List.setIfInBounds_toArray, List.set_cons_zero, List.set_cons_succ]
          refine takeAny 1 (dN := some 32) (v := ?v2_1_2) rfl rfl (by kernel_rfl) (by kernel_rfl) (by kernel_rfl) (fun _ _ _ h => h) (.inl ⟨rfl, fun w' hSw => ?h2_1_2⟩) hS ?_
          case h2_1_2 => (go_simp; first | done | with_reducible rfl)
          simp only [Act.put, List.setIfInBounds_toArray, List.set_cons_zero, List.set_cons_succ]
          refine takeAny 2 (dN := some 33) (v := ?v2_2_3) rfl rfl (by kernel_rfl) (by kernel_rfl) (by kernel_rfl) (fun _ _ _ h => h) (.inl ⟨rfl, fun w' hSw => ?h2_2_3⟩) hS ?_
          case h2_2_3 => (go_simp; first | done | with_reducible rfl)
          simp only [Act.put, List.setIfInBounds_toArray, List.set_cons_zero, List.set_cons_succ]
          refine takeAny 3 (dN := some 34) (v := ?v2_3_4) rfl rfl (by kernel_rfl) (by kernel_rfl) (by kernel_rfl) (fun _ _ _ h => h) (.inl ⟨rfl, fun w' hSw => ?h2_3_4⟩) hS ?_
          case h2_3_4 => (go_simp; first | done | with_reducible rfl)
          simp only [Act.put, List.setIfInBounds_toArray, List.set_cons_zero, List.set_cons_succ]
          refine takeAny 4 (dN := some 35) (v := ?v2_4_5) rfl rfl (by kernel_rfl) (by kernel_rfl) (by kernel_rfl) (fun _ _ _ h => h) (.inl ⟨rfl, fun w' hSw => ?h2_4_5⟩) hS ?_
          case h2_4_5 => ((have y0 := pairRow hSw.2.2.1 HQ0.out); (have y1 := pairRow hSw.2.2.1 HQ1.out); go_simp; first | done | with_reducible rfl)
          simp only [Act.put, List.setIfInBounds_toArray, List.set_cons_zero, List.set_cons_succ]
          refine takeAny 5 (dN := some 36) (v := ?v2_5_6) rfl rfl (by kernel_rfl) (by kernel_rfl) (by kernel_rfl) (fun _ _ _ h => h) (.inl ⟨rfl, fun w' hSw => ?h2_5_6⟩) hS ?_
          case h2_5_6 => (go_simp; first | done | with_reducible rfl)
          simp only [Act.put, List.setIfInBounds_toArray, List.set_cons_zero, List.set_cons_succ]
          refine takeAny 6 (dN := some 37) (v := ?v2_6_7) rfl rfl (by kernel_rfl) (by kernel_rfl) (by kernel_rfl) (fun _ _ _ h => h) (.inl ⟨rfl, fun w' hSw => ?h2_6_7⟩) hS ?_
          case h2_6_7 => (go_simp; first | done | with_reducible rfl)
          simp only [Act.put, List.setIfInBounds_toArray, List.set_cons_zero, List.set_cons_succ]
          refine takeAny 7 (dN := some 38) (v := ?v2_7_8) rfl rfl (by kernel_rfl) (by kernel_rfl) (by kernel_rfl) (fun _ _ _ h => h) (.inl ⟨rfl, fun w' hSw => ?h2_7_8⟩) hS ?_
          case h2_7_8 => ((have y2 : w'.cell? ⟨r, 2, none⟩ = some (.int .i8 q) := pairRow hSw.2.2.2 rfl); go_simp; first | done | with_reducible rfl)
          simp only [Act.put, List.setIfInBounds_toArray, List.set_cons_zero, List.set_cons_succ]
          refine takeAny 8 (dN := some 39) (v := ?v2_8_9) rfl rfl (by kernel_rfl) (by kernel_rfl) (by kernel_rfl) (fun _ _ _ h => h) (.inl ⟨rfl, fun w' hSw => ?h2_8_9⟩) hS ?_
          case h2_8_9 => (go_simp; first | done | with_reducible rfl)
          simp only [Act.put, List.setIfInBounds_toArray, List.set_cons_zero, List.set_cons_succ]
          refine wpAnyH_ready (rs := [9]) (by kernel_rfl) (by simp) (AllReadyH.cons rfl (fun K hK => ?_) AllReadyH.nil)
          go_simp
          go_at_call 59
          refine (HBq.out _).mono ?_
          rintro e w8_9 ⟨rfl, hb⟩
          refine hK.out _ _ ⟨belW hS.1 hb, blkB hb hS.2.1 (blkLt hS.2.1), blkB hb hS.2.2.1 (blkLt hS.2.2.1), blkB hb hS.2.2.2 (blkLt hS.2.2.2)⟩ (fun hS => ?_)
          clear hb hK
          refine wpAnyH_ready (rs := [10]) (by kernel_rfl) (by simp) (AllReadyH.cons rfl (fun K hK => ?_) AllReadyH.nil)
          go_simp
          go_at_call 28
          refine (HGq.out _ hS.2.1).mono ?_
          rintro e w8_10 ⟨rfl, hb⟩
          refine hK.out _ _ ⟨belW hS.1 hb, blkB hb hS.2.1 (blkLt hS.2.1), blkB hb hS.2.2.1 (blkLt hS.2.2.1), blkB hb hS.2.2.2 (blkLt hS.2.2.2)⟩ (fun hS => ?_)
          clear hb hK
          refine wpAnyH_done (by kernel_rfl) ?_ _
          have hr8 := hr.below hS.1
          have hcc8 := hS.2.2.2
          have d0 := pairRow hcc8 (o := 0) rfl
          have d1 := pairRow hcc8 (o := 1) rfl
          have d2 := pairRow hcc8 (o := 2) rfl
          have f2 := blkF hcc8 (i := 2)
          have HCC8 := Lib.hid hcc8
          clear hS hcc8 hr x2
          cases b3 with
          | false =>
            clear f2
            go_wp2_with (at_builtin; obtain ⟨ys, hown⟩ := hr8.1; refine wpList_append_own_at _ rfl _ _ 68 rfl w.heap.size 86 i0 (.agg #[.int .i8 0, .int .i8 0, .int .i8 0]) 3 3 Try.underlying68 hi hz0 hz1 hz2 rfl (by decide) _ _ _ rfl (hown.alloc _) ⟨_, 0, none⟩ 1 1 [.int .i8 x, .int .i8 y, .int .i8 q] rfl rfl threeCells threeOne (by simp only [maxLen]; omega) (by omega) (by have := hr8.2.1.size; simp; omega) ?_; intro v1 w7 hown1 hgrow1 _ hat1)
            refine ⟨?_, by simp [intOf]; omega⟩
            have hr7 : RunR L gl g w.heap.size t cur w w7 v1 ((G.take (i + 1)).filter (beginB L W 0 1)).length := by rw [HTK.out, HYES.out, if_pos rfl, List.length_append, ← HM.out]; exact hr8.put hown1 hgrow1 hat1
            first | exact ⟨i + 1, by omega, by go_num, hr7⟩ | ((repeat (apply Exists.intro)); exact ⟨⟨i + 1, by omega, by go_num, hr7⟩, rfl⟩)
          | true =>
            have hb := HIN.out _ _ HB3.out.symm
            have n0 : (0 : Int) ≤ q := by omega
            have n1 : (q : Int) ≤ 9 := by omega
            go_wp2
            go_roundg (10 - (q + 1))
            case measure => omega
            case rel => exact ⟨q + 1, by omega, hr8.set hrg hrl hrw HRV.out, by have e := blkS (i := 2) (u := .int .i8 ((q : Int) + 1)) HCC8.out; simpa using e⟩
      · rw [b2] at HG2
        have hno : beginB L W 0 1 k = false := by rw [HQ.out, b2]; rfl
        have HNO := Lib.hid hno
        have HG2 := Lib.hid HG2
        clear b2 hno
        go_wp2_with (first | (go_at_call 59; refine (HB1.out _).mono ?_; rintro e w4 ⟨rfl, hb4⟩; have hr4 := hr.below hb4) | (go_at_call 28; refine (HG2.out _ hr4.2.2.1).mono ?_; rintro e w5 ⟨rfl, hb5⟩; have hr5 := hr4.below hb5))
        refine ⟨?_, by simp [intOf]; omega⟩
        have hr6 : RunR L gl g w.heap.size t cur w w5 u5 ((G.take (i + 1)).filter (beginB L W 0 1)).length := by rw [HTK.out, HNO.out]; simpa using hr5
        first | exact ⟨i + 1, by omega, by go_num, hr6⟩ | ((repeat (apply Exists.intro)); exact ⟨⟨i + 1, by omega, by go_num, hr6⟩, rfl⟩)
    · have hd : decide ((i : Int) < n) = false := by simp; omega
      have hdn : decide (i < n) = false := by simp; omega
      have e : G.take i = G := by rw [List.take_of_length_le]; rw [← HNN.out]; omega
      have E := Lib.hid e
      clear e
      go_wp2
      go_ret
      rw [E.out] at hr
      exact hr.out
end Go.Proofs.Ytchhjdjdhlfhlaa.L
