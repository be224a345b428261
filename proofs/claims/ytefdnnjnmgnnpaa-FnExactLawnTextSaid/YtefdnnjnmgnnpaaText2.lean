/- Walks: a lawn as text; the program's. -/
import Derived.Test.YtefdnnjnmgnnpaaText
namespace Go.Proofs.Ytefdnnjnmgnnpaa.L
set_option linter.unusedSimpArgs false
set_option linter.unusedVariables false
open Go.RowKit Go.Proofs.Ytefdnnjnmgnnpaa.B

theorem atDst {P : Program} {ops : Array Oper} {rest : List Oper} {o : Oper} {a : Act} {Q : Exit → Act → World → Prop} {W : World} (N : Tmp) (_hN : o.dst = some N) (h : wpList P ops Q (o :: rest) a W) : wpList P ops Q (o :: rest) a W := h
theorem cellAt {w : World} {g o : Nat} {t : TypeId} {cs : Array Value} (h : w.heap[g]? = some (.cells cs t (0, 0))) {a : Value} (ha : cs[o]? = some a) : w.cell? ⟨g, o, none⟩ = some a := (blkC h o).trans ha
theorem infoByte : (Try.prog.info? 5).map (fun i => (i.zero, i.size, i.bytes)) = some (some (.int .u8 0), 1, 1) := by kernel_rfl
theorem oneCell {w : World} {a : Value} {t : TypeId} : ∀ (j : Nat) (u : Value), [a][j]? = some u → (w.alloc (.cells #[a] t)).cell? ((⟨w.heap.size, 0, none⟩ : Addr).add j) = some u := by
  intro j u h
  match j, h with
  | 0, h => simp at h; subst h; exact (blkC (blkN rfl) 0).trans rfl
  | j + 1, h => simp at h
theorem oneOne {k1 : IntKind} {a : Int} : ∀ u ∈ [Value.int k1 a], u.oneCell' = true := by
  intro u hu
  simp only [List.mem_cons, List.not_mem_nil, or_false] at hu
  rcases hu with rfl; rfl

set_option maxRecDepth 100000 in
set_option maxHeartbeats 1000000 in
theorem letter (L : Lw) (hL : Lw.Ok L) (x y : Nat) (hx : x < 10) (hy : y < 10) (h3 : L.c (y * 10 + x) ≤ 3) (b : UInt8) (hb : letU (L.c (y * 10 + x)) = b) (gl : Nat) (w : World) (hl : w.heap[gl]? = some (.cells L.cells 28 (0, 0))) :
    Calls Try.prog 22 #[.agg #[.int .i8 x, .int .i8 y], .pointer (some ⟨gl, 0, none⟩)] w fun e w' => e = .returned (.int .u8 (b.toNat : Int)) ∧ Below w.heap.size w w' := by
  have HK := fun (w : World) => kind L hL x y hx hy w
  obtain ⟨v0, _⟩ := hL.2.2.2.2 (y * 10 + x) (by omega)
  obtain ⟨v, hv⟩ : ∃ v, v = L.c (y * 10 + x) := ⟨_, rfl⟩
  rw [← hv] at HK h3 hb v0
  have HK := Lib.hid HK
  have hidx := fun w => idxLet .i64 v v0 h3 w (.inr rfl)
  rw [hb] at hidx
  clear hv hb hL
  go_enter Try.func22, Try.ntmps22
  go_wp2_with (first | ((with_reducible refine atDst 4 rfl ?_); refine loadRow 4 rfl rfl rfl rfl Try.underlying28 rfl (blkA hl) (by rw [Lw.size]; exact size28) ?_) | (go_at_call 23; refine (HK.out _).mono ?_; rintro e w1 ⟨rfl, hb⟩))
  go_ret
  exact ⟨rfl, belW (belA (Below.refl _ _)) hb⟩

/-- So much text is laid. -/
def TextR (L : Lw) (g B : Nat) (cur : Array Value) (w wr : World) (v : Value) (l : List UInt8) : Prop :=
  wr.ownsRow B 5 1 v l.length (bytesV l) ∧ Below w.heap.size w wr ∧ wr.heap[w.heap.size]? = some (.cells L.cells 28 (0, 0)) ∧ wr.heap[g]? = some (.cells cur 44 (0, 0)) ∧ v.ownBlock ≠ some g ∧ w.heap.size < B
theorem TextR.below {L : Lw} {g B : Nat} {cur : Array Value} {w wr w1 : World} {v : Value} {l : List UInt8} (h : TextR L g B cur w wr v l) (hb : Below wr.heap.size wr w1) : TextR L g B cur w w1 v l := by
  obtain ⟨h1, h2, h3, h4, h5, h6⟩ := h
  refine ⟨⟨h1.1, ?_⟩, belW h2 hb, blkB hb h3 (blkLt h3), blkB hb h4 (blkLt h4), h5, h6⟩
  rcases h1.2 with hn | ⟨b, cap, cu, hv, hB, hg, rest⟩
  · exact .inl hn
  · exact .inr ⟨b, cap, cu, hv, hB, blkB hb hg (blkLt hg), rest⟩
theorem TextR.put {L : Lw} {g B : Nat} {cur : Array Value} {w wr w1 : World} {v v1 : Value} {l : List UInt8} {b : UInt8} {o : Obj} (h : TextR L g B cur w wr v l) (ho : w1.ownsRow B 5 1 v1 (l.length + 1) (bytesV l ++ [.int .u8 (b.toNat : Int)])) (hg : (wr.alloc o).grownBy w1 v.ownBlock) (hat : v1.ownBlock = v.ownBlock ∨ v1.ownBlock = some (wr.alloc o).heap.size) : TextR L g B cur w w1 v1 (l ++ [b]) := by
  obtain ⟨h1, h2, h3, h4, h5, h6⟩ := h
  refine ⟨?_, ?_, ?_, ?_, ?_, h6⟩
  · have e1 : (l ++ [b]).length = l.length + 1 := by simp
    have e2 : bytesV (l ++ [b]) = bytesV l ++ [.int .u8 (b.toNat : Int)] := by simp [bytesV]
    rw [e1, e2]; exact ho
  · refine Below.trans (belA h2) ⟨hg.os, hg.tape, hg.output, hg.size, fun i hi => ?_⟩
    exact hg.block i (Nat.lt_of_lt_of_le hi (belA h2 (o := o)).size) (ownB h1 (by omega))
  · exact (hg.block w.heap.size (Nat.lt_trans (blkLt h3) (by simp)) (ownB h1 h6)).trans (blkA h3)
  · exact (hg.block g (Nat.lt_trans (blkLt h4) (by simp)) (fun e => h5 e.symm)).trans (blkA h4)
  · rcases hat with e | e
    · rw [e]; exact h5
    · rw [e]
      intro e2
      injection e2 with e2
      have := blkLt h4
      simp at e2
      omega
theorem textL_pos (L : Lw) (W : Nat) : ∀ k, k ≤ (textL L W k).length
  | 0 => Nat.zero_le _
  | k + 1 => by
    have := textL_pos L W k
    unfold textL
    rw [List.length_append, List.length_cons]
    omega
/-- The text, turned to a string. -/
theorem TextR.str {L : Lw} {g B : Nat} {cur : Array Value} {w wr : World} {v : Value} {l : List UInt8} (h : TextR L g B cur w wr v l) (hl : 0 < l.length) : (convert 58 9 v).run Try.prog wr = .ok (.string (strB l)) wr := by
  rcases h.1.2 with ⟨hv, hn⟩ | ⟨b, cap, cu, hv, hB, hg, _, _, _, ht⟩
  · omega
  · rw [hv]
    exact run_convert_bytes_back _ _ _ 5 ⟨b, 0, none⟩ cap l Try.underlying58 Try.underlying5 Try.underlying9 (fun j hj => by
      have e : cu[j]? = some (.int .u8 (l[j].toNat : Int)) := by
        have h2 : (cu.toList.take (l.length * 1))[j]? = (bytesV l)[j]? := by rw [ht]
        rw [List.getElem?_take, if_pos (by omega)] at h2
        simp only [bytesV, List.getElem?_map, List.getElem?_eq_getElem hj, Option.map_some] at h2
        simpa using h2
      have h3 := cellAt hg e
      rw [show (⟨b, 0, none⟩ : Addr).add j = ⟨b, j, none⟩ by simp [Addr.add]; omega]
      exact h3)

set_option maxRecDepth 100000 in
set_option maxHeartbeats 2000000 in
theorem rowsText (L : Lw) (hL : Lw.Ok L) (hv : validB L = true) (W H : Nat) (hw : L.wide = W) (hh : L.high = H) (hW1 : 1 ≤ W) (hW : W ≤ 10) (hH1 : 1 ≤ H) (hH : H ≤ 10) (gl : Nat) (w : World) (hl : w.heap[gl]? = some (.cells L.cells 28 (0, 0))) :
    Calls Try.prog 21 #[.agg L.cells, .func (.func 22) #[] #[.pointer (some ⟨gl, 0, none⟩)]] w fun e w' => e = .returned (.string (strB (textL L W (W * H)))) ∧ Below w.heap.size w w' := by
  obtain ⟨i0, hi, hz0, hz1, hz2⟩ := info_parts infoByte
  obtain ⟨N, hN⟩ : ∃ N, N = W * H := ⟨_, rfl⟩
  have hWH : W * H ≤ 10 * 10 := Nat.mul_le_mul hW hH
  have hWH1 : 1 * 1 ≤ W * H := Nat.mul_le_mul hW1 hH1
  have HA := fun (w : World) => all L W H hw hh hW hH w
  rw [← hN] at HA hWH hWH1 ⊢
  have HA := Lib.hid HA
  have HN := Lib.hid hN
  have HV := Lib.hid (fun i (hi : i < 100) => valid_c hL hv hi)
  have HL := Lib.hid hL
  have HLL := Lib.hid hl
  have ll := blkLt hl
  have g0 := L.get0
  rw [hw] at g0
  clear hL hN hw hh hv hl
  go_enter Try.func21, Try.ntmps21
  go_wp2_with (first | ((with_reducible refine atDst 9 rfl ?_); refine loadRow 9 rfl rfl rfl rfl Try.underlying28 rfl (blkA (blkN rfl)) (by rw [Lw.size]; exact size28) ?_) | (go_at_call 25; refine (HA.out _).mono ?_; rintro e w3 ⟨u, rfl, ho, hb3⟩; obtain ⟨g, cap, cur, rfl, hg1, hg2, hg3⟩ := ownAt ho (by omega)))
  have hR0 : TextR L g (w.heap.size + 1) cur w w3 (.slice (some ⟨w.heap.size + 1, 0, none⟩) 0 0) [] := by
    refine ⟨⟨rfl, .inr ⟨w.heap.size + 1, 0, #[], rfl, Nat.le_refl _, blkB hb3 (blkN (by simp)) (by simp), Nat.le_refl _, by simp [maxLen], rfl, rfl⟩⟩, belW (belA (belA (Below.refl _ _))) hb3, blkB hb3 (blkA (blkN rfl)) (by first | (simp; done) | (simp; omega)), hg2, ?_, by omega⟩
    have : w.heap.size + 1 + 1 ≤ g := by simpa using hg1
    simp [Value.ownBlock]; omega
  have HR0 := Lib.hid hR0
  have HG3 := Lib.hid hg3
  clear hR0 hg3 hg1 hg2 ho hb3
  go_loopw [5, 12] (fun v i wr => ∃ k : Nat, k ≤ N ∧ i = .int .i64 k ∧ TextR L g (w.heap.size + 1) cur w wr v (textL L W k)) (fun _ i _ => N - (intOf i).toNat)
  case atStart => exact ⟨0, by omega, rfl, HR0.out⟩
  case round =>
    obtain ⟨k, hk, rfl, hr⟩ := hrel
    by_cases hlt : k < N
    · have hd : decide ((k : Int) < N) = true := by simp; omega
      have hdn : decide (k < N) = true := by simp; omega
      obtain ⟨x, y, hx, hy, hx1, hy1⟩ := cellRound (W := W) (H := H) (k := k) (by rw [← HN.out]; exact hlt)
      obtain ⟨q0, q1⟩ := HG3.out k hlt
      rw [hx] at q0
      rw [hy] at q1
      have r0 := (blkC hr.2.2.2.1 (k * 2)).trans q0
      have r1 := (blkC hr.2.2.2.1 (k * 2 + 1)).trans q1
      have hlen := textL_len L W k
      obtain ⟨b, hb⟩ : ∃ b, b = letAt L W k := ⟨_, rfl⟩
      have htx : textL L W (k + 1) = textL L W k ++ b :: if x = W - 1 then [10] else [] := by rw [textL, hb, hx]
      have hbx : letU (L.c (y * 10 + x)) = b := by rw [hb]; unfold letAt srcN; rw [hx, hy]
      have HTX := Lib.hid htx
      have HLE := Lib.hid (fun (W1 : World) h => letter L HL.out x y (by omega) (by omega) (HV.out (y * 10 + x) (by omega)).2 b hbx gl W1 h)
      have hrA := hr.below (belA (Below.refl _ _) (o := .cells #[.int .i8 x, .int .i8 y] 44))
      have hlA : (wr.alloc (.cells #[.int .i8 x, .int .i8 y] 44)).heap[gl]? = some (.cells L.cells 28 (0, 0)) := blkA (blkB hr.2.1 HLL.out ll)
      have hcA : (wr.alloc (.cells #[.int .i8 x, .int .i8 y] 44)).heap[wr.heap.size]? = some (.cells #[.int .i8 x, .int .i8 y] 44 (0, 0)) := blkN rfl
      have HLA := Lib.hid hlA
      have HCA := Lib.hid hcA
      have hvlt : ∀ q, u5.ownBlock = some q → q < wr.heap.size := fun q hq => (hr.1.lt q hq).2
      have HVL := Lib.hid hvlt
      have x1 : IntKind.i8.wrap ((W : Int) - 1) = (W : Int) - 1 := i8_in (by omega) (by omega)
      clear hx hy q0 q1 hb htx hbx hlA hcA hvlt
      generalize textL L W k = l at *
      by_cases hxW : x = W - 1
      · have t1 : ((x : Int) == (W : Int) - 1) = true := by simp; omega
        have t2 : decide ((x : Int) = (W : Int) - 1) = true := by simp; omega
        have HXW := Lib.hid hxW
        clear hxW
        go_wp2_with (first | (go_at_call 22; refine (HLE.out _ HLA.out).mono ?_; rintro e w4 ⟨rfl, hb4⟩; have hr4 := hrA.below hb4; have HC4 := Lib.hid (blkB hb4 HCA.out (blkLt HCA.out))) | ((with_reducible refine atDst 21 rfl ?_); at_builtin; refine wpList_append_own_at _ rfl _ _ 58 rfl (w.heap.size + 1) 5 i0 (.int .u8 0) 1 1 Try.underlying58 hi hz0 hz1 hz2 rfl (by decide) _ _ _ rfl (hr4.1.alloc _) ⟨_, 0, none⟩ 1 1 [.int .u8 (b.toNat : Int)] rfl rfl oneCell oneOne (by simp only [maxLen]; omega) (by omega) (by have := blkLt hr4.2.2.1; simp; omega) ?_; intro v1 w5 hown1 hgrow1 _ hat1; have hr5 := hr4.put hown1 hgrow1 hat1; have d0 := (blkC hr5.2.2.1 0).trans g0; have hc5 := (hgrow1.block wr.heap.size (Nat.lt_trans (blkLt HC4.out) (by simp)) (fun e => absurd (HVL.out _ e.symm) (Nat.lt_irrefl _))).trans (blkA HC4.out); have e0 := cellAt hc5 (o := 0) rfl; clear hc5) | ((with_reducible refine atDst 30 rfl ?_); at_builtin; refine wpList_append_own_at _ rfl _ _ 58 rfl (w.heap.size + 1) 5 i0 (.int .u8 0) 1 1 Try.underlying58 hi hz0 hz1 hz2 rfl (by decide) _ _ _ rfl (hr5.1.alloc _) ⟨_, 0, none⟩ 1 1 [.int .u8 10] rfl rfl oneCell oneOne (by simp only [maxLen, List.length_append, List.length_cons, List.length_nil]; omega) (by simp only [List.length_append, List.length_cons, List.length_nil]; omega) (by have := blkLt hr5.2.2.1; simp; omega) ?_; intro v2 w6 hown2 hgrow2 _ hat2; have hr6 := hr5.put (b := 10) hown2 hgrow2 hat2))
        refine ⟨?_, by simp [intOf]; omega⟩
        have hr7 : TextR L g (w.heap.size + 1) cur w w6 v2 (textL L W (k + 1)) := by rw [HTX.out, if_pos HXW.out]; simpa using hr6
        first | exact ⟨k + 1, by omega, by go_num, hr7⟩ | ((repeat (apply Exists.intro)); exact ⟨⟨k + 1, by omega, by go_num, hr7⟩, rfl⟩)
      · have t1 : ((x : Int) == (W : Int) - 1) = false := by simp; omega
        have t2 : decide ((x : Int) = (W : Int) - 1) = false := by simp; omega
        have HXW := Lib.hid hxW
        clear hxW
        go_wp2_with (first | (go_at_call 22; refine (HLE.out _ HLA.out).mono ?_; rintro e w4 ⟨rfl, hb4⟩; have hr4 := hrA.below hb4; have HC4 := Lib.hid (blkB hb4 HCA.out (blkLt HCA.out))) | ((with_reducible refine atDst 21 rfl ?_); at_builtin; refine wpList_append_own_at _ rfl _ _ 58 rfl (w.heap.size + 1) 5 i0 (.int .u8 0) 1 1 Try.underlying58 hi hz0 hz1 hz2 rfl (by decide) _ _ _ rfl (hr4.1.alloc _) ⟨_, 0, none⟩ 1 1 [.int .u8 (b.toNat : Int)] rfl rfl oneCell oneOne (by simp only [maxLen]; omega) (by omega) (by have := blkLt hr4.2.2.1; simp; omega) ?_; intro v1 w5 hown1 hgrow1 _ hat1; have hr5 := hr4.put hown1 hgrow1 hat1; have d0 := (blkC hr5.2.2.1 0).trans g0; have hc5 := (hgrow1.block wr.heap.size (Nat.lt_trans (blkLt HC4.out) (by simp)) (fun e => absurd (HVL.out _ e.symm) (Nat.lt_irrefl _))).trans (blkA HC4.out); have e0 := cellAt hc5 (o := 0) rfl; clear hc5))
        refine ⟨?_, by simp [intOf]; omega⟩
        have hr7 : TextR L g (w.heap.size + 1) cur w w5 v1 (textL L W (k + 1)) := by rw [HTX.out, if_neg HXW.out]; exact hr5
        first | exact ⟨k + 1, by omega, by go_num, hr7⟩ | ((repeat (apply Exists.intro)); exact ⟨⟨k + 1, by omega, by go_num, hr7⟩, rfl⟩)
    · have hd : decide ((k : Int) < N) = false := by simp; omega
      have hdn : decide (k < N) = false := by simp; omega
      have e : k = N := by omega
      have E := Lib.hid e
      clear e
      have hpos := textL_pos L W k
      have hconv := hr.str (by omega)
      clear hpos
      go_wp2
      go_ret
      exact ⟨by rw [← E.out]; rfl, hr.2.1⟩

set_option maxRecDepth 100000 in
set_option maxHeartbeats 2000000 in
theorem lawnTextOk (L : Lw) (hL : Lw.Ok L) (hv : validB L = true) (W H : Nat) (hw : L.wide = W) (hh : L.high = H) (hW1 : 1 ≤ W) (hW : W ≤ 10) (hH1 : 1 ≤ H) (hH : H ≤ 10) (w : World) :
    Calls Try.prog 9 #[.agg L.cells] w fun e w' => e = .returned (.string (strB (textL L W (W * H)))) ∧ Below w.heap.size w w' := by
  have HC := fun (w : World) => valid L hL w
  rw [hv] at HC
  have HC := Lib.hid HC
  have HR := Lib.hid (fun (gl : Nat) (w : World) h => rowsText L hL hv W H hw hh hW1 hW hH1 hH gl w h)
  clear hL hv hw hh
  go_enter Try.func9, Try.ntmps9
  go_wp2_with (first | ((with_reducible refine atDst 3 rfl ?_); refine loadRow 3 rfl rfl rfl rfl Try.underlying28 rfl (blkN rfl) (by rw [Lw.size]; exact size28) ?_) | (go_at_call 20; refine (HC.out _).mono ?_; rintro e w1 ⟨rfl, hb⟩; have hB1 := belW (belA (Below.refl w.heap.size w)) hb; have h1 : w1.heap[w.heap.size]? = some (.cells L.cells 28 (0, 0)) := blkB hb (blkN rfl) (by simp)) | ((with_reducible refine atDst 6 rfl ?_); refine loadRow 6 rfl rfl rfl rfl Try.underlying28 rfl h1 (by rw [Lw.size]; exact size28) ?_) | (go_at_call 21; refine (HR.out _ _ h1).mono ?_; rintro e w2 ⟨rfl, hb2⟩))
  go_ret
  exact ⟨rfl, belW hB1 hb2⟩
set_option maxRecDepth 100000 in
set_option maxHeartbeats 2000000 in
theorem sLawnTextOk (L : Lw) (hL : Lw.Ok L) (hv : validB L = true) (W H : Nat) (hw : L.wide = W) (hh : L.high = H) (hW1 : 1 ≤ W) (hW : W ≤ 10) (hH1 : 1 ≤ H) (hH : H ≤ 10) (w : World) :
    Calls Try.prog 7 #[.agg L.cells] w fun e w' => e = .returned (.string (strB (textL L W (W * H)))) ∧ Below w.heap.size w w' := by
  have HC := fun (g : Nat) (t : TypeId) (w : World) hg => sOk L hL g t w hg
  rw [hv] at HC
  have HC := Lib.hid HC
  have HR := Lib.hid (fun (g : Nat) (t : TypeId) (w : World) h => sText L hL hv W H hw hh hW1 hW hH1 hH g t w h)
  clear hL hv hw hh
  go_enter Try.func7, Try.ntmps7
  go_wp2_with (first | (go_at_call 17; refine (HC.out w.heap.size _ _ (blkN rfl)).mono ?_; rintro e w1 ⟨rfl, hb⟩; have hB1 := belW (belA (Below.refl w.heap.size w)) hb; have h1 : w1.heap[w.heap.size]? = some (.cells L.cells 28 (0, 0)) := blkB hb (blkN rfl) (by simp)) | (go_at_call 18; refine (HR.out _ _ _ h1).mono ?_; rintro e w2 ⟨rfl, hb2⟩))
  go_ret
  exact ⟨rfl, belW hB1 hb2⟩
set_option maxRecDepth 100000 in
set_option maxHeartbeats 2000000 in
theorem lawnTextNo (L : Lw) (hL : Lw.Ok L) (hv : validB L = false) (w : World) :
    Calls Try.prog 9 #[.agg L.cells] w fun e w' => e = .returned (.string (strB [])) ∧ Below w.heap.size w w' := by
  have HC := fun (w : World) => valid L hL w
  rw [hv] at HC
  have HC := Lib.hid HC
  clear hL hv
  go_enter Try.func9, Try.ntmps9
  go_wp2_with (first | ((with_reducible refine atDst 3 rfl ?_); refine loadRow 3 rfl rfl rfl rfl Try.underlying28 rfl (blkN rfl) (by rw [Lw.size]; exact size28) ?_) | (go_at_call 20; refine (HC.out _).mono ?_; rintro e w1 ⟨rfl, hb⟩; have hB1 := belW (belA (Below.refl w.heap.size w)) hb))
  go_ret
  exact ⟨rfl, hB1⟩
set_option maxRecDepth 100000 in
set_option maxHeartbeats 2000000 in
theorem sLawnTextNo (L : Lw) (hL : Lw.Ok L) (hv : validB L = false) (w : World) :
    Calls Try.prog 7 #[.agg L.cells] w fun e w' => e = .returned (.string (strB [])) ∧ Below w.heap.size w w' := by
  have HC := fun (g : Nat) (t : TypeId) (w : World) hg => sOk L hL g t w hg
  rw [hv] at HC
  have HC := Lib.hid HC
  clear hL hv
  go_enter Try.func7, Try.ntmps7
  go_wp2_with (first | (go_at_call 17; refine (HC.out w.heap.size _ _ (blkN rfl)).mono ?_; rintro e w1 ⟨rfl, hb⟩; have hB1 := belW (belA (Below.refl w.heap.size w)) hb))
  go_ret
  exact ⟨rfl, hB1⟩
theorem textAny (L : Lw) (hL : Lw.Ok L) : ∃ s : ByteArray, (∀ w, Calls Try.prog 9 #[.agg L.cells] w fun e w' => e = .returned (.string s) ∧ Below w.heap.size w w') ∧ (∀ w, Calls Try.prog 7 #[.agg L.cells] w fun e w' => e = .returned (.string s) ∧ Below w.heap.size w w') := by
  rcases twoways (validB L) with hv | hv
  · exact ⟨_, fun w => lawnTextNo L hL hv w, fun w => sLawnTextNo L hL hv w⟩
  · obtain ⟨W, H, hw, hh, h1, h2, h3, h4⟩ := sides hv
    exact ⟨_, fun w => lawnTextOk L hL hv W H hw hh h1 h2 h3 h4 w, fun w => sLawnTextOk L hL hv W H hw hh h1 h2 h3 h4 w⟩

set_option maxRecDepth 100000 in
set_option maxHeartbeats 4000000 in
theorem lawText (L : Lw) (hL : Lw.Ok L) (w : World) :
    Calls Try.prog 3 #[.agg L.cells] w fun e w' => e = .returned (.bool true) ∧ Below w.heap.size w w' := by
  obtain ⟨s, HI, HS⟩ := textAny L hL
  have HI := Lib.hid HI
  have HS := Lib.hid HS
  go_enter Try.func3, Try.ntmps3
  go_wp2_with (refine loadRow 5 rfl rfl rfl rfl Try.underlying26 rfl (blkN rfl) (by rw [Lw.size]; kernel_rfl) ?_)
  refine (toLawn L _).mono ?_
  rintro e w1 ⟨rfl, hb⟩
  have hB1 := belW (belA (Below.refl w.heap.size w)) hb
  have h1 : w1.heap[w.heap.size]? = some (.cells L.cells 26 (0, 0)) := blkB hb (blkN rfl) (by simp)
  clear hb
  go_wp2_with fail
  refine (HS.out _).mono ?_
  rintro e w2 ⟨rfl, hb⟩
  have hB2 := belW hB1 hb
  have h2 := blkB hb h1 (blkLt h1)
  clear hb hB1 h1
  go_wp2_with (refine loadRow 8 rfl rfl rfl rfl Try.underlying26 rfl h2 (by rw [Lw.size]; kernel_rfl) ?_)
  refine (toLawn L _).mono ?_
  rintro e w4 ⟨rfl, hb⟩
  have hB4 := belW hB2 hb
  clear hb hB2
  go_wp2_with fail
  refine (HI.out _).mono ?_
  rintro e w5 ⟨rfl, hb⟩
  have hB5 := belW hB4 hb
  clear hb hB4
  go_wp2
  go_ret
  exact ⟨rfl, hB5⟩
end Go.Proofs.Ytefdnnjnmgnnpaa.L
