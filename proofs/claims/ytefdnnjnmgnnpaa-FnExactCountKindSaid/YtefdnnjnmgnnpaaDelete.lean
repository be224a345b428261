/- Walks: those of a slice of cells that are kept, the library's DeleteFunc; the cells of a kind, the program's. -/
import Derived.Test.YtefdnnjnmgnnpaaThose
namespace Go.Proofs.Ytefdnnjnmgnnpaa.L
set_option linter.unusedSimpArgs false
set_option linter.unusedVariables false
open Go.RowKit Go.Proofs.Ytefdnnjnmgnnpaa.B

theorem run_clear_rows {P : Program} {n : Nat} (w : World) (t e ty : TypeId) (z : Value) (ht : P.underlying t = some (.slice e)) (hv : ∀ w, (zeroValue e).run P w = .ok z w) (h1 : ∀ u ∈ (Builtin.zeroCells z.cells n).toList, u.oneCell' = true) (b o c : Nat) (hn : 0 < n)
    (hc : ∀ j, j < (Builtin.zeroCells z.cells n).toList.length → (w.cell? ⟨b, o + j, none⟩).isSome = true) (hf : ∀ j, j < (Builtin.zeroCells z.cells n).toList.length → w.frozen? ⟨b, o + j, none⟩ = false) :
    (Builtin.clear_ #[t] ty #[.slice (some ⟨b, o, none⟩) n c]).run P w = .ok (.tuple #[]) (w.setCells b o (Builtin.zeroCells z.cells n).toList) := by
  have hst := run_storeCells_cells (P := P) b o (Builtin.zeroCells z.cells n).toList 0 w (by simpa using hc) (by simpa using hf) h1
  simp only [Nat.add_zero] at hst
  obtain ⟨m, rfl⟩ : ∃ m, n = m + 1 := ⟨n - 1, by omega⟩
  simp [Builtin.clear_, run_underlying ht, hv, hst]
/-- The state at the head of a round. -/
def DelR (W N g S : Nat) (w wr : World) (j : Nat) : Prop := Below g w wr ∧ ∃ cur, wr.heap[g]? = some (.cells cur 44 (0, 0)) ∧ cur.size = S ∧ Cells2 W N cur j

set_option maxRecDepth 100000 in
set_option maxHeartbeats 4000000 in
theorem deleteDel (W N g gh cap : Nat) (p : Nat → Bool) (cur : Array Value) (w0 w : World) (hN : N ≤ 100) (h0 : Below g w0 w) (hg : w.heap[g]? = some (.cells cur 44 (0, 0))) (hcap : N ≤ cap) (hs : cur.size = cap * 2) (hc : Cells2 W N cur 0) (hd : DelC W N g gh p w0) :
    Calls Try.prog 46 #[.slice (some ⟨g, 0, none⟩) N cap, .func (.func 47) #[] #[.pointer (some ⟨gh, 0, none⟩)]] w fun e w' => e = .returned (.slice (some ⟨g, 0, none⟩) (keepL p N).length cap) ∧ Below g w w' := by
  have HI := Lib.hid (indexDel W N g gh cap p cur w0 w hN h0 hg hc hd)
  have HC := Lib.hid hc
  have HD := Lib.hid hd
  have H0 := Lib.hid h0
  have HG := Lib.hid hg
  have HS := Lib.hid hs
  have hgl := blkLt hg
  clear hc hd h0 hg hs
  go_enter Try.func46, Try.ntmps46
  go_wp2_with fail
  refine HI.out.mono ?_
  rintro e w1 ⟨r, rfl, hr, hb⟩
  have hB1 : Below g w w1 := hb.mono (Nat.le_of_lt hgl)
  have G1 := Lib.hid (blkB hb HG.out hgl)
  rcases hr with ⟨rfl, hall⟩ | ⟨i, rfl, hi, hpi, hall⟩
  · have HA := Lib.hid (keepL_all hall)
    clear hall hb
    go_wp2
    go_ret
    exact ⟨by rw [HA.out]; rfl, hB1⟩
  · have HP := Lib.hid hpi
    have HA := Lib.hid (keepL_first hpi hall)
    have hne : ((i : Int) == -1) = false := (by first | (simp; done) | (simp; omega))
    have hne2 : decide ((i : Int) = -1) = false := (by first | (simp; done) | (simp; omega))
    clear hpi hb hall
    go_wp2
    have HR0 := Lib.hid (show DelR W N g (cap * 2) w w1 (i + 1) from ⟨hB1, cur, G1.out, HS.out, fun k h1 h2 => HC.out k (by omega) h2⟩)
    go_loopw [5, 6] (fun iv jv wr => ∃ j : Nat, i < j ∧ j ≤ N ∧ jv = .int .i64 j ∧ iv = .int .i64 ((keepL p j).length : Nat) ∧ DelR W N g (cap * 2) w wr j) (fun _ jv _ => N - (intOf jv).toNat)
    case atStart => exact ⟨i + 1, by omega, by omega, by go_num, by rw [HA.out], HR0.out⟩
    case round =>
      obtain ⟨j, hij, hj, rfl, rfl, hr⟩ := hrel
      have hlen := keepL_lt HP.out j hij
      obtain ⟨m, hm⟩ : ∃ m, m = (keepL p j).length := ⟨_, rfl⟩
      rw [← hm] at hlen ⊢
      have HM := Lib.hid hm
      clear hm
      obtain ⟨hB, cu, hcu, hsz, hce⟩ := hr
      have HSZ := Lib.hid hsz
      have HCE := Lib.hid hce
      have HCU := Lib.hid hcu
      clear hsz hce hcu
      by_cases hlt : j < N
      · have hd : decide ((j : Int) < N) = true := by simp; omega
        have hdn : decide (j < N) = true := by simp; omega
        obtain ⟨q0, q1⟩ := HCE.out j (Nat.le_refl _) hlt
        have r0 := pairRow HCU.out q0
        have r1 := pairRow HCU.out q1
        obtain ⟨x, hx⟩ : ∃ x, x = j % W := ⟨_, rfl⟩
        obtain ⟨y, hy⟩ : ∃ y, y = j / W := ⟨_, rfl⟩
        have HX := HD.out j hlt (wr.alloc (.cells #[.int .i8 x, .int .i8 y] 44)) ((H0.out.trans hB).trans ((Below.refl g wr).alloc (Nat.le_of_lt (blkLt HCU.out)) _))
        rw [← hx] at r0 HX
        rw [← hy] at r1 HX
        clear hx hy q0 q1
        cases hpk : p j with
        | true =>
          rw [hpk] at HX
          have HX := Lib.hid HX
          have HP2 := Lib.hid hpk
          clear hpk
          have hm1 : m * 2 < cu.size := by rw [HSZ.out]; omega
          have hm2 : m * 2 + 1 < cu.size := by rw [HSZ.out]; omega
          have d0' : cu[m * 2]? = some cu[m * 2] := Array.getElem?_eq_getElem hm1
          have d1' : cu[m * 2 + 1]? = some cu[m * 2 + 1] := Array.getElem?_eq_getElem hm2
          obtain ⟨t0, ht0⟩ : ∃ t, t = cu[m * 2] := ⟨_, rfl⟩
          obtain ⟨t1, ht1⟩ : ∃ t, t = cu[m * 2 + 1] := ⟨_, rfl⟩
          rw [← ht0] at d0'
          rw [← ht1] at d1'
          have D0 := Lib.hid d0'
          have D1 := Lib.hid d1'
          clear ht0 ht1 d0' d1'
          go_wp2_with (first | (go_at_call 47; refine HX.out.mono ?_; rintro e w4 ⟨rfl, hb⟩; have v0 := pairRow (blkB hb (blkN rfl) (by simp)) (o := 0) rfl; have v1 := pairRow (blkB hb (blkN rfl) (by simp)) (o := 1) rfl; have G4 := blkB hb (blkA HCU.out) (Nat.lt_trans (blkLt HCU.out) (by simp)); have d0 := pairRow G4 D0.out; have d1 := pairRow G4 D1.out; have f0 := blkF G4 (i := m * 2); have f1 := blkF G4 (i := m * 2 + 1); have HG4 := Lib.hid G4; clear G4))
          refine ⟨?_, by simp [intOf]; omega⟩
          have hr2 : DelR W N g (cap * 2) w ((w4.setCell ⟨g, m * 2, none⟩ (.int .i8 x)).setCell ⟨g, m * 2 + 1, none⟩ (.int .i8 y)) (j + 1) := by
            refine ⟨?_, (cu.setIfInBounds (m * 2) (.int .i8 x)).setIfInBounds (m * 2 + 1) (.int .i8 y), blkS (blkS HG4.out), by simp [HSZ.out], fun k h1 h2 => ?_⟩
            · have hB4 : Below g w w4 := hB.trans (Below.trans ((Below.refl g wr).alloc (Nat.le_of_lt (blkLt HCU.out)) _) (hb.mono (by simp; have := blkLt HCU.out; omega)))
              exact (hB4.setCell (p := ⟨g, m * 2, none⟩) (Nat.le_refl _) _).setCell (p := ⟨g, m * 2 + 1, none⟩) (Nat.le_refl _) _
            · obtain ⟨a1, a2⟩ := HCE.out k (by omega) h2
              rw [Array.getElem?_setIfInBounds, if_neg (by omega), Array.getElem?_setIfInBounds, if_neg (by omega), Array.getElem?_setIfInBounds, if_neg (by omega), Array.getElem?_setIfInBounds, if_neg (by omega)]
              exact ⟨a1, a2⟩
          have hl2 : (keepL p (j + 1)).length = m + 1 := by rw [keepL_succ, List.length_append, ← HM.out, HP2.out]; rfl
          first | exact ⟨j + 1, by omega, by omega, by go_num, by rw [hl2]; go_num, hr2⟩ | ((repeat (apply Exists.intro)); exact ⟨⟨j + 1, by omega, by omega, by go_num, by rw [hl2]; go_num, hr2⟩, rfl⟩)
        | false =>
          rw [hpk] at HX
          have HX := Lib.hid HX
          have HP2 := Lib.hid hpk
          clear hpk
          go_wp2_with (first | (go_at_call 47; refine HX.out.mono ?_; rintro e w4 ⟨rfl, hb⟩))
          refine ⟨?_, by simp [intOf]; omega⟩
          have hr2 : DelR W N g (cap * 2) w w4 (j + 1) := by
            have hB4 : Below g w w4 := hB.trans (Below.trans ((Below.refl g wr).alloc (Nat.le_of_lt (blkLt HCU.out)) _) (hb.mono (by simp; have := blkLt HCU.out; omega)))
            exact ⟨hB4, cu, blkB hb (blkA HCU.out) (Nat.lt_trans (blkLt HCU.out) (by simp)), HSZ.out, fun k h1 h2 => HCE.out k (by omega) h2⟩
          have hl2 : (keepL p (j + 1)).length = m := by rw [keepL_succ, List.length_append, ← HM.out, HP2.out]; rfl
          first | exact ⟨j + 1, by omega, by omega, by go_num, by rw [hl2], hr2⟩ | ((repeat (apply Exists.intro)); exact ⟨⟨j + 1, by omega, by omega, by go_num, by rw [hl2], hr2⟩, rfl⟩)
      · have hd : decide ((j : Int) < N) = false := by simp; omega
        have hdn : decide (j < N) = false := by simp; omega
        have e : j = N := by omega
        have E := Lib.hid e
        have hmN : m < N := by omega
        have hzl : (Builtin.zeroCells (Value.agg #[.int .i8 0, .int .i8 0]).cells (N - m)).toList.length = (N - m) * 2 := by
          rw [Array.length_toList, size_zeroCells]; rfl
        have hcl : ∀ ty, (Builtin.clear_ #[48] ty #[.slice (some ⟨g, m * 2, none⟩) (N - m) (cap - m)]).run Try.prog wr = .ok (.tuple #[]) (wr.setCells g (m * 2) (Builtin.zeroCells (Value.agg #[.int .i8 0, .int .i8 0]).cells (N - m)).toList) := fun ty =>
          run_clear_rows wr _ _ ty _ Try.underlying48 (fun w => by kernel_rfl) (fun u hu => by
            rw [Builtin.zeroCells] at hu
            simp only [Value.cells] at hu
            rw [Array.mem_toList_iff, Array.mem_map] at hu
            obtain ⟨q, _, rfl⟩ := hu
            have hq : q % #[Value.int IntKind.i8 0, Value.int IntKind.i8 0].size = 0 ∨ q % #[Value.int IntKind.i8 0, Value.int IntKind.i8 0].size = 1 := by have h2 : #[Value.int IntKind.i8 0, Value.int IntKind.i8 0].size = 2 := rfl; have h3 := Nat.mod_lt q (show 0 < #[Value.int IntKind.i8 0, Value.int IntKind.i8 0].size by decide); omega
            rcases hq with h | h <;> rw [h] <;> rfl) g (m * 2) _ (by omega) (fun t ht => by rw [hzl] at ht; rw [blkC HCU.out, Array.getElem?_eq_getElem (by rw [HSZ.out]; omega)]; rfl) (fun t ht => blkF HCU.out _)
        clear e hzl
        have HE := Lib.hid (hB.trans (setCells_heap (Builtin.zeroCells (Value.agg #[.int .i8 0, .int .i8 0]).cells (N - m)).toList (m * 2) wr cu 44 g HCU.out).2.2.1)
        go_wp2
        go_ret
        exact ⟨by rw [← E.out, ← HM.out]; rfl, HE.out⟩

set_option maxRecDepth 100000 in
set_option maxHeartbeats 2000000 in
theorem those (L : Lw) (hL : Lw.Ok L) (W H : Nat) (hw : L.wide = W) (hh : L.high = H) (hW1 : 1 ≤ W) (hW : W ≤ 10) (hH1 : 1 ≤ H) (hH : H ≤ 10) (k : Int) (gl gk : Nat) (w : World) (hl : w.heap[gl]? = some (.cells L.cells 28 (0, 0))) (hk : w.heap[gk]? = some (.cells #[.int .i64 k] 2 (0, 0))) :
    Calls Try.prog 43 #[.agg L.cells, .func (.func 44) #[] #[.pointer (some ⟨gl, 0, none⟩), .pointer (some ⟨gk, 0, none⟩)]] w fun e w' => (∃ g cap, e = .returned (.slice (some ⟨g, 0, none⟩) (keepL (ofB L W k) (W * H)).length cap)) ∧ Below w.heap.size w w' := by
  have hWH : W * H ≤ 10 * 10 := Nat.mul_le_mul hW hH
  have hWH1 : 1 * 1 ≤ W * H := Nat.mul_le_mul hW1 hH1
  have HA := Lib.hid (fun (w : World) => all L W H hw hh hW hH w)
  have HL := Lib.hid hL
  have ll := blkLt hl
  have lk := blkLt hk
  have HLL := Lib.hid hl
  have HKK := Lib.hid hk
  clear hl hk hL hw hh
  go_enter Try.func43, Try.ntmps43
  go_wp2_with (refine loadRow 5 rfl rfl rfl rfl Try.underlying28 rfl (blkA (blkN rfl)) (by rw [Lw.size]; exact size28) ?_)
  refine (HA.out _).mono ?_
  rintro e w3 ⟨u, rfl, ho, hb3⟩
  have hsz := ho.2
  obtain ⟨g, cap, cur, rfl, hg1, hg2, hg3⟩ := ownAt ho (by omega)
  have hcap : W * H ≤ cap ∧ cur.size = cap * 2 := by
    rcases hsz with ⟨e, _⟩ | ⟨g', cap', cur', e, _, h3, h4, _, h6, _⟩
    · cases e
    · injection e with e1 _ e3
      injection e1 with e1
      injection e1 with e1 _ _
      subst e1 e3
      rw [hg2] at h3
      injection h3 with h3
      injection h3 with h3 _ _
      subst h3
      exact ⟨h4, h6⟩
  have hB3 := belW (belA (belA (Below.refl w.heap.size w))) hb3
  have hh3 : w3.heap[w.heap.size + 1]? = some (.cells #[.func (.func 44) #[] #[.pointer (some ⟨gl, 0, none⟩), .pointer (some ⟨gk, 0, none⟩)]] 61 (0, 0)) := blkB hb3 (blkN (by simp)) (by simp)
  have hgs : w.heap.size + 1 < g := by have : w.heap.size + 1 + 1 ≤ g := by simpa using hg1
                                       omega
  have hd : DelC W (W * H) g (w.heap.size + 1) (ofB L W k) w3 := fun q hq W4 hW4 => by
    have h5 : q / W < H := Nat.div_lt_of_lt_mul hq
    have h6 : q % W < W := Nat.mod_lt _ (by omega)
    refine those1 _ (ofB L W k q) (q % W) (q / W) (w.heap.size + 1) W4 (blkB hW4 hh3 hgs) gl gk rfl (fun W5 hW5 => ?_)
    refine holdC L HL.out k (q % W) (q / W) (by omega) (by omega) _ rfl gl gk W5 ?_ ?_
    · have a1 := blkB hB3 HLL.out ll
      have a2 := blkB hW4 a1 (by omega)
      exact blkB hW5 a2 (blkLt a2)
    · have a1 := blkB hB3 HKK.out lk
      have a2 := blkB hW4 a1 (by omega)
      exact blkB hW5 a2 (blkLt a2)
  have HD := Lib.hid (deleteDel W (W * H) g (w.heap.size + 1) cap (ofB L W k) cur w3 w3 (by omega) (Below.refl _ _) hg2 hcap.1 hcap.2 (fun q _ h2 => hg3 q h2) hd)
  clear hd hh3 hg3 hg2 hcap hsz ho hb3
  go_wp2_with (first | (go_at_call 46; refine HD.out.mono ?_; rintro e w6 ⟨rfl, hb6⟩))
  go_ret
  exact ⟨⟨g, cap, rfl⟩, hB3.trans (hb6.mono (by omega))⟩
end Go.Proofs.Ytefdnnjnmgnnpaa.L
