/- Walks: the sides of a cell. -/
import Derived.Test.YtchhjdjdhlfhlaaGrass
import Derived.Test.YtchhjdjdhlfhlaaAllS
namespace Go.Proofs.Ytchhjdjdhlfhlaa.L
set_option linter.unusedSimpArgs false
set_option linter.unusedVariables false
open Go.RowKit Go.Proofs.Ytchhjdjdhlfhlaa.B

theorem atDst {P : Program} {ops : Array Oper} {rest : List Oper} {o : Oper} {a : Act} {Q : Exit → Act → World → Prop} {W : World} (N : Tmp) (_hN : o.dst = some N) (h : wpList P ops Q (o :: rest) a W) : wpList P ops Q (o :: rest) a W := h
theorem cellAt {w : World} {g o : Nat} {t : TypeId} {cs : Array Value} (h : w.heap[g]? = some (.cells cs t (0, 0))) {a : Value} (ha : cs[o]? = some a) : w.cell? ⟨g, o, none⟩ = some a := (blkC h o).trans ha
theorem hin {L : Lw} {W H : Nat} (hw : L.wide = W) (hh : L.high = H) (hW : W ≤ 10) (hH : H ≤ 10) (x y : Int) (h : hasB L x y = true) : x < 10 ∧ y < 10 := by
  simp only [hasB, Bool.and_eq_true, decide_eq_true_eq] at h
  omega
theorem valid_c {L : Lw} (hL : Lw.Ok L) (hv : validB L = true) {i : Nat} (hi : i < 100) : 0 ≤ L.c i ∧ L.c i ≤ 3 := by
  refine ⟨(hL.2.2.2.2 i hi).1, ?_⟩
  by_cases h : fineB L i = true
  · simp only [fineB, Bool.and_eq_true, decide_eq_true_eq] at h
    exact h.1
  · rw [validB_bad hi (by simpa using h)] at hv
    cases hv
/-- The i-th cell beside. -/
def nbX (x : Int) (i : Nat) : Int := if i = 1 then x - 1 else if i = 2 then x + 1 else x
def nbY (y : Int) (i : Nat) : Int := if i = 0 then y - 1 else if i = 3 then y + 1 else y
def nbs (x y : Int) : Array Value := #[.int .i8 x, .int .i8 (y - 1), .int .i8 (x - 1), .int .i8 y, .int .i8 (x + 1), .int .i8 y, .int .i8 x, .int .i8 (y + 1)]
theorem nbs_at (x y : Int) {i : Nat} (hi : i < 4) : (nbs x y)[i * 2]? = some (.int .i8 (nbX x i)) ∧ (nbs x y)[i * 2 + 1]? = some (.int .i8 (nbY y i)) := by
  match i, hi with
  | 0, _ => exact ⟨rfl, rfl⟩
  | 1, _ => exact ⟨rfl, rfl⟩
  | 2, _ => exact ⟨rfl, rfl⟩
  | 3, _ => exact ⟨rfl, rfl⟩
/-- What lies there. -/
def tgtS (L : Lw) (x y : Int) (i : Nat) : Nat := if hasB L (nbX x i) (nbY y i) then (L.c ((nbY y i).toNat * 10 + (nbX x i).toNat)).toNat else 4
/-- The sides by the first k. -/
def sideC (L : Lw) (x y : Int) : Nat → Nat → Int
  | 0 => fun _ => 0
  | k + 1 => fun j => if j = tgtS L x y k then sideC L x y k (tgtS L x y k) + 1 else sideC L x y k j
theorem sideC_in (L : Lw) (x y : Int) : ∀ k j, 0 ≤ sideC L x y k j ∧ sideC L x y k j ≤ k
  | 0, j => by simp [sideC]
  | k + 1, j => by
    have h1 := sideC_in L x y k j
    have h2 := sideC_in L x y k (tgtS L x y k)
    unfold sideC
    split <;> omega
theorem z5 : arr .i64 5 (fun _ => 0) = #[.int .i64 0, .int .i64 0, .int .i64 0, .int .i64 0, .int .i64 0] := by kernel_rfl
theorem size5 : (Try.prog.info? 41).map (·.size) = some 5 := by kernel_rfl
set_option maxRecDepth 100000 in
set_option maxHeartbeats 1000000 in
theorem beside (x y : Int) (hx0 : 0 ≤ x) (hx1 : x ≤ 9) (hy0 : 0 ≤ y) (hy1 : y ≤ 9) (w : World) :
    Calls Try.prog 54 #[.agg #[.int .i8 x, .int .i8 y]] w fun e w' => e = .returned (.slice (some ⟨w.heap.size + 1, 0, none⟩) 4 4) ∧ w' = (w.alloc (.cells #[.int .i8 x, .int .i8 y] 44)).alloc (.cells (nbs x y) 44) := by
  go_enter Try.func54, Try.ntmps54
  go_wp2
  go_ret
  exact ⟨rfl, rfl⟩
set_option maxRecDepth 100000 in
set_option maxHeartbeats 1000000 in
theorem sNear (x y : Int) (hx0 : 0 ≤ x) (hx1 : x ≤ 9) (hy0 : 0 ≤ y) (hy1 : y ≤ 9) (w : World) :
    Calls Try.prog 51 #[.agg #[.int .i8 x, .int .i8 y]] w fun e w' => e = .returned (.slice (some ⟨w.heap.size + 1, 0, none⟩) 4 4) ∧ w' = (w.alloc (.cells #[.int .i8 x, .int .i8 y] 44)).alloc (.cells (nbs x y) 44) := by
  go_enter Try.func51, Try.ntmps51
  go_wp2
  go_ret
  exact ⟨rfl, rfl⟩
/-- The state at the head of a round. -/
def SideR (L : Lw) (x y : Int) (gl gr o g : Nat) (t : TypeId) (w wr : World) (k : Nat) : Prop :=
  Below w.heap.size w wr ∧ wr.heap[gl]? = some (.cells L.cells t (0, 0)) ∧ wr.heap[gr]? = some (.cells (arr .i64 5 (fun _ => 0)) 41 (0, 0)) ∧ wr.heap[o]? = some (.cells (arr .i64 5 (sideC L x y k)) 41 (0, 0)) ∧ wr.heap[g]? = some (.cells (nbs x y) 44 (0, 0)) ∧ w.heap.size ≤ o ∧ gl ≠ o ∧ gr ≠ o ∧ g ≠ o
theorem SideR.below {L : Lw} {x y : Int} {gl gr o g : Nat} {t : TypeId} {w wr w1 : World} {k : Nat} (h : SideR L x y gl gr o g t w wr k) (hb : Below wr.heap.size wr w1) : SideR L x y gl gr o g t w w1 k := by
  obtain ⟨h1, h2, h3, h4, h5, h6⟩ := h
  exact ⟨belW h1 hb, blkB hb h2 (blkLt h2), blkB hb h3 (blkLt h3), blkB hb h4 (blkLt h4), blkB hb h5 (blkLt h5), h6⟩
theorem SideR.put {L : Lw} {x y : Int} {gl gr o g : Nat} {t : TypeId} {w wr : World} {k q : Nat} {v : Int} (h : SideR L x y gl gr o g t w wr k) (hq : tgtS L x y k = q) (hv : sideC L x y k q + 1 = v) : SideR L x y gl gr o g t w (wr.setCell ⟨o, q, none⟩ (.int .i64 v)) (k + 1) := by
  obtain ⟨h1, h2, h3, h4, h5, h6, h7, h8, h9⟩ := h
  refine ⟨belS h1 (p := ⟨o, q, none⟩) h6, blkO h2 (p := ⟨o, q, none⟩) h7, blkO h3 (p := ⟨o, q, none⟩) h8, ?_, blkO h5 (p := ⟨o, q, none⟩) h9, h6, h7, h8, h9⟩
  rw [blkS h4, arr_set]
  subst hq hv
  rfl

set_option maxRecDepth 100000 in
set_option maxHeartbeats 1000000 in
theorem grassCodeC (L : Lw) (hL : Lw.Ok L) (x y : Int) (hin : hasB L x y = true → x < 10 ∧ y < 10) (gl : Nat) (r : Bool) (hr : (!isB L 0 x y) = r) (w : World) (hl : w.heap[gl]? = some (.cells L.cells 30 (0, 0))) :
    Calls Try.prog 53 #[.agg #[.int .i8 x, .int .i8 y], .pointer (some ⟨gl, 0, none⟩)] w fun e w' => e = .returned (.bool r) ∧ Below w.heap.size w w' := by
  subst hr
  have hlt := blkLt hl
  go_enter Try.func53, Try.ntmps53
  go_wp2_with (first | (refine loadRow 4 rfl rfl rfl rfl Try.underlying30 rfl (blkA hl) (by rw [Lw.size]; exact size28) ?_) | (go_at_call 25; refine (grass L hL x y hin _).mono ?_; rintro e w1 ⟨rfl, hb⟩))
  go_ret
  exact ⟨rfl, belW (belA (Below.refl _ _)) hb⟩

set_option maxRecDepth 100000 in
set_option maxHeartbeats 1000000 in
theorem indexG (L : Lw) (hL : Lw.Ok L) (x y : Int) (hin : hasB L x y = true → x < 10 ∧ y < 10) (g gl c : Nat) (w : World) (hg : w.heap[g]? = some (.cells #[.int .i8 x, .int .i8 y] 44 (0, 0))) (hl : w.heap[gl]? = some (.cells L.cells 30 (0, 0))) :
    Calls Try.prog 62 #[.slice (some ⟨g, 0, none⟩) 1 c, .func (.func 53) #[] #[.pointer (some ⟨gl, 0, none⟩)]] w fun e w' => e = .returned (.int .i64 (idxB (isB L 0 x y))) ∧ Below w.heap.size w w' := by
  have c0 : w.cell? ⟨g, 0, none⟩ = some (.int .i8 x) := (blkC hg 0).trans rfl
  have c1 : w.cell? ⟨g, 1, none⟩ = some (.int .i8 y) := (blkC hg 1).trans rfl
  go_enter Try.func62, Try.ntmps62
  go_wp2
  refine wp_loop_rounds 2 ?_
  rw [rounds_succ]
  rcases twoways (isB L 0 x y) with b | b
  · go_wp2_with (first | (go_at_call 53; refine (grassCodeC L hL x y hin gl true (by rw [b]; rfl) _ hl).mono ?_; rintro e w1 ⟨rfl, hb⟩))
    go_ret
    exact ⟨by rw [b]; rfl, hb⟩
  · go_wp2_with (first | (go_at_call 53; refine (grassCodeC L hL x y hin gl false (by rw [b]; rfl) _ hl).mono ?_; rintro e w1 ⟨rfl, hb⟩))
    rw [rounds_succ]
    go_wp2
    go_ret
    exact ⟨by rw [b]; rfl, hb⟩

theorem containsG (L : Lw) (hL : Lw.Ok L) (x y : Int) (hin : hasB L x y = true → x < 10 ∧ y < 10) (g gl c : Nat) (r : Bool) (hr : (!isB L 0 x y) = r) (w : World) (hg : w.heap[g]? = some (.cells #[.int .i8 x, .int .i8 y] 44 (0, 0))) (hl : w.heap[gl]? = some (.cells L.cells 30 (0, 0))) :
    Calls Try.prog 52 #[.slice (some ⟨g, 0, none⟩) 1 c, .func (.func 53) #[] #[.pointer (some ⟨gl, 0, none⟩)]] w fun e w' => e = .returned (.bool r) ∧ Below w.heap.size w w' := by
  subst hr
  have hI := indexG L hL x y hin g gl c w hg hl
  rcases twoways (isB L 0 x y) with b | b
  · rw [b, show idxB false = 0 from rfl] at hI
    go_enter Try.func52, Try.ntmps52
    go_wp2_with (first | (go_at_call 62; refine hI.mono ?_; rintro e w1 ⟨rfl, hb⟩))
    go_ret
    exact ⟨by rw [b]; rfl, hb⟩
  · rw [b, show idxB true = -1 from rfl] at hI
    go_enter Try.func52, Try.ntmps52
    go_wp2_with (first | (go_at_call 62; refine hI.mono ?_; rintro e w1 ⟨rfl, hb⟩))
    go_ret
    exact ⟨by rw [b]; rfl, hb⟩
set_option maxRecDepth 100000 in
set_option maxHeartbeats 2000000 in
theorem around (L : Lw) (hL : Lw.Ok L) (hv : validB L = true) (x y : Int) (hx0 : 0 ≤ x) (hx1 : x ≤ 9) (hy0 : 0 ≤ y) (hy1 : y ≤ 9) (w : World) :
    Calls Try.prog 33 #[.agg L.cells, .agg #[.int .i8 x, .int .i8 y]] w fun e w' => e = .returned (.agg (arr .i64 5 (sideC L x y 4))) ∧ Below w.heap.size w w' := by
  have HBE := Lib.hid (fun (w : World) => beside x y hx0 hx1 hy0 hy1 w)
  have HV := Lib.hid hv
  have HL := Lib.hid hL
  obtain ⟨W, H, hw, hh, a1, a2, a3, a4⟩ := sides hv
  have HIN := Lib.hid (fun (x y : Int) h => hin hw hh a2 a4 x y h)
  clear hv hL hw hh
  go_enter Try.func33, Try.ntmps33
  go_wp2_with (go_at_call 54; refine (HBE.out _).mono ?_; rintro e w1 ⟨rfl, hw1⟩; have HW1 := Lib.hid hw1; clear hw1)
  have hR0 : SideR L x y w.heap.size (w.heap.size + 1 + 1) (w.heap.size + 1 + 1 + 1) (w.heap.size + 1 + 1 + 1 + 1 + 1) 30 w w1 0 := by
    rw [HW1.out]
    refine ⟨belA (belA (belA (belA (belA (belA (Below.refl _ _)))))), blkA (blkA (blkA (blkA (blkA (blkN rfl))))), ?_, ?_, blkN (by simp), by omega, by omega, by omega, by omega⟩
    · rw [z5]; exact blkA (blkA (blkA (blkN (by simp))))
    · show _ = some (Obj.cells (arr .i64 5 (fun _ => 0)) _ (0, 0))
      rw [z5]; exact blkA (blkA (blkN (by simp)))
  have HR0 := Lib.hid hR0
  clear HW1 hR0
  obtain ⟨gl, hgl⟩ : ∃ gl, gl = w.heap.size := ⟨_, rfl⟩
  obtain ⟨gr, hgr⟩ : ∃ gr, gr = w.heap.size + 1 + 1 := ⟨_, rfl⟩
  obtain ⟨o, ho⟩ : ∃ o, o = w.heap.size + 1 + 1 + 1 := ⟨_, rfl⟩
  obtain ⟨g, hg⟩ : ∃ g, g = w.heap.size + 1 + 1 + 1 + 1 + 1 := ⟨_, rfl⟩
  have HR0' := HR0.out
  rw [← hg, ← ho, ← hgr, ← hgl] at HR0'
  have HR1 := Lib.hid HR0'
  rw [← hg, ← ho, ← hgr, ← hgl]
  have HGR : w.heap.size ≤ gr := by omega
  clear hgl hgr ho hg HR0 HR0'
  go_loopw [12] (fun i wr => ∃ k : Nat, k ≤ 4 ∧ i = .int .i64 k ∧ SideR L x y gl gr o g 30 w wr k) (fun i _ => 4 - (intOf i).toNat)
  case atStart => exact ⟨0, by omega, rfl, HR1.out⟩
  case round =>
    obtain ⟨k, hk, rfl, hr⟩ := hrel
    by_cases hlt : k < 4
    · have hd : decide ((k : Int) < 4) = true := by simp; omega
      obtain ⟨q0, q1⟩ := nbs_at x y hlt
      have r0 := cellAt hr.2.2.2.2.1 q0
      have r1 := cellAt hr.2.2.2.2.1 q1
      have HTG := Lib.hid (show tgtS L x y k = if hasB L (nbX x k) (nbY y k) then (L.c ((nbY y k).toNat * 10 + (nbX x k).toNat)).toNat else 4 from rfl)
      have HSB := Lib.hid (sideC_in L x y k)
      have HH := fun (w : World) => has L (nbX x k) (nbY y k) w
      clear q0 q1
      have hn1 : -1 ≤ nbX x k ∧ nbX x k ≤ 10 := by unfold nbX; split <;> (try split) <;> omega
      have hn2 : -1 ≤ nbY y k ∧ nbY y k ≤ 10 := by unfold nbY; split <;> (try split) <;> omega
      have HI2 := Lib.hid (HIN.out (nbX x k) (nbY y k))
      generalize nbX x k = nx at *
      generalize nbY y k = ny at *
      have hrA := hr.below (belA (Below.refl _ _) (o := .cells #[.int .i8 nx, .int .i8 ny] 44))
      have HCA := Lib.hid (show (wr.alloc (.cells #[.int .i8 nx, .int .i8 ny] 44)).heap[wr.heap.size]? = some (.cells #[.int .i8 nx, .int .i8 ny] 44 (0, 0)) from blkN rfl)
      rcases twoways (hasB L nx ny) with b | b
      · rw [b] at HH
        have HH := Lib.hid HH
        have htg : tgtS L x y k = 4 := by rw [HTG.out, b]; rfl
        obtain ⟨s, hs⟩ : ∃ s, s = sideC L x y k 4 := ⟨_, rfl⟩
        have hsb := HSB.out 4
        rw [← hs] at hsb
        have HTG4 := Lib.hid htg
        have HS := Lib.hid hs
        have s0 := hsb.1
        have s1 : s ≤ 100 := by omega
        clear b htg hs hsb
        go_wp2_with (first | ((with_reducible refine atDst 16 rfl ?_); refine loadRow 16 rfl rfl rfl rfl Try.underlying30 rfl hrA.2.1 (by rw [Lw.size]; exact size28) ?_) | (go_at_call 45; refine (HH.out _).mono ?_; rintro e w4 ⟨rfl, hb4⟩; have hr4 := hrA.below hb4; have c4 := (blkC hr4.2.2.2.1 4).trans (arr_get (by omega)); rw [← HS.out] at c4; have f4 := blkF hr4.2.2.2.1 (i := 4)))
        refine ⟨?_, by simp [intOf]; omega⟩
        have hr5 : SideR L x y gl gr o g 30 w (w4.setCell ⟨o, 4, none⟩ (.int .i64 (s + 1))) (k + 1) := hr4.put HTG4.out (by rw [← HS.out])
        first | exact ⟨k + 1, by omega, by go_num, hr5⟩ | ((repeat (apply Exists.intro)); exact ⟨⟨k + 1, by omega, by go_num, hr5⟩, rfl⟩)
      · have hb0 := HI2.out b
        have hpos : 0 ≤ nx ∧ 0 ≤ ny := by
          simp only [hasB, Bool.and_eq_true, decide_eq_true_eq] at b
          exact ⟨b.1, b.2.2.1⟩
        obtain ⟨p, rfl⟩ : ∃ p : Nat, nx = p := ⟨nx.toNat, by omega⟩
        obtain ⟨r, rfl⟩ : ∃ r : Nat, ny = r := ⟨ny.toNat, by omega⟩
        rw [b] at HH
        have HH := Lib.hid HH
        have HK := fun (w : World) => kind L HL.out p r (by omega) (by omega) w
        obtain ⟨c0, c1⟩ := valid_c HL.out HV.out (show r * 10 + p < 100 by omega)
        obtain ⟨q, hq⟩ : ∃ q : Nat, L.c (r * 10 + p) = q := ⟨(L.c (r * 10 + p)).toNat, by omega⟩
        rw [hq] at HK c0 c1
        have HK := Lib.hid HK
        have htg : tgtS L x y k = q := by rw [HTG.out, b, if_pos rfl, Int.toNat_natCast, Int.toNat_natCast, hq]; simp
        have hq3 : q ≤ 3 := by omega
        obtain ⟨s, hs⟩ : ∃ s, s = sideC L x y k q := ⟨_, rfl⟩
        have hsb := HSB.out q
        rw [← hs] at hsb
        have HTG4 := Lib.hid htg
        have HS := Lib.hid hs
        have s0 := hsb.1
        have s1 : s ≤ 100 := by omega
        have z0 : (0 : Int) ≤ q := by omega
        have z1 : (q : Int) < 5 := by omega
        clear b htg hs hsb hq c0 c1 hpos hb0 hn1 hn2
        go_wp2_with (first | ((with_reducible refine atDst 16 rfl ?_); refine loadRow 16 rfl rfl rfl rfl Try.underlying30 rfl hrA.2.1 (by rw [Lw.size]; exact size28) ?_) | ((with_reducible refine atDst 19 rfl ?_); refine loadRow 19 rfl rfl rfl rfl Try.underlying30 rfl hr4.2.1 (by rw [Lw.size]; exact size28) ?_) | (go_at_call 45; refine (HH.out _).mono ?_; rintro e w4 ⟨rfl, hb4⟩; have hr4 := hrA.below hb4; have hc4 := blkB hb4 HCA.out (blkLt HCA.out); have e0 := cellAt hc4 (o := 0) rfl; have e1 := cellAt hc4 (o := 1) rfl; clear hc4) | (go_at_call 55; refine (HK.out _).mono ?_; rintro e w5 ⟨rfl, hb5⟩; have hr5 := hr4.below hb5; have c4 := (blkC hr5.2.2.2.1 q).trans (arr_get (by omega)); rw [← HS.out] at c4; have f4 := blkF hr5.2.2.2.1 (i := q)))
        refine ⟨?_, by simp [intOf]; omega⟩
        have hr6 : SideR L x y gl gr o g 30 w (w5.setCell ⟨o, q, none⟩ (.int .i64 (s + 1))) (k + 1) := hr5.put HTG4.out (by rw [← HS.out])
        first | exact ⟨k + 1, by omega, by go_num, hr6⟩ | ((repeat (apply Exists.intro)); exact ⟨⟨k + 1, by omega, by go_num, hr6⟩, rfl⟩)
    · have hd : decide ((k : Int) < 4) = false := by simp; omega
      have e : k = 4 := by omega
      have E := Lib.hid e
      clear e
      go_wp2_with (first | ((with_reducible refine atDst 31 rfl ?_); refine loadRow 31 rfl rfl rfl rfl Try.underlying41 rfl hr.2.2.2.1 (by rw [arr_size]; exact size5) ?_) | (refine storeRow rfl rfl rfl rfl rfl hr.2.2.1 (by rw [arr_size]; exact size5) (by simp only [arr_size]) (arr_one _ _ _) ?_; intro w6 j1 j2 j3 j4))
      exact retRow rfl rfl j1 Try.underlying41 rfl (by rw [arr_size]; exact size5) rfl ⟨by rw [E.out], hr.1.trans (j3.mono HGR)⟩

set_option maxRecDepth 100000 in
set_option maxHeartbeats 2000000 in
theorem sAround (L : Lw) (hL : Lw.Ok L) (hv : validB L = true) (x y : Int) (hx0 : 0 ≤ x) (hx1 : x ≤ 9) (hy0 : 0 ≤ y) (hy1 : y ≤ 9) (gl : Nat) (t : TypeId) (w : World) (hl : w.heap[gl]? = some (.cells L.cells t (0, 0))) :
    Calls Try.prog 31 #[.pointer (some ⟨gl, 0, none⟩), .agg #[.int .i8 x, .int .i8 y]] w fun e w' => e = .returned (.agg (arr .i64 5 (sideC L x y 4))) ∧ Below w.heap.size w w' := by
  have HBE := Lib.hid (fun (w : World) => sNear x y hx0 hx1 hy0 hy1 w)
  have HV := Lib.hid hv
  have HL := Lib.hid hL
  obtain ⟨W, H, hw, hh, a1, a2, a3, a4⟩ := sides hv
  have HIN := Lib.hid (fun (x y : Int) h => hin hw hh a2 a4 x y h)
  have HLL := Lib.hid hl
  have ll := blkLt hl
  clear hv hL hw hh hl
  go_enter Try.func31, Try.ntmps31
  go_wp2_with (go_at_call 51; refine (HBE.out _).mono ?_; rintro e w1 ⟨rfl, hw1⟩; have HW1 := Lib.hid hw1; clear hw1)
  have hR0 : SideR L x y gl (w.heap.size + 1) (w.heap.size + 1 + 1) (w.heap.size + 1 + 1 + 1 + 1) t w w1 0 := by
    rw [HW1.out]
    refine ⟨belA (belA (belA (belA (belA (Below.refl _ _))))), blkA (blkA (blkA (blkA (blkA HLL.out)))), ?_, ?_, blkN (by simp), by omega, by omega, by omega, by omega⟩
    · rw [z5]; exact blkA (blkA (blkA (blkN (by simp))))
    · show _ = some (Obj.cells (arr .i64 5 (fun _ => 0)) _ (0, 0))
      rw [z5]; exact blkA (blkA (blkN (by simp)))
  have HR0 := Lib.hid hR0
  clear HW1 hR0
  obtain ⟨gr, hgr⟩ : ∃ gr, gr = w.heap.size + 1 := ⟨_, rfl⟩
  obtain ⟨o, ho⟩ : ∃ o, o = w.heap.size + 1 + 1 := ⟨_, rfl⟩
  obtain ⟨g, hg⟩ : ∃ g, g = w.heap.size + 1 + 1 + 1 + 1 := ⟨_, rfl⟩
  have HR0' := HR0.out
  rw [← hg, ← ho, ← hgr] at HR0'
  have HR1 := Lib.hid HR0'
  have HGR : w.heap.size ≤ gr := by omega
  go_wp2_with fail
  rw [← hg, ← ho, ← hgr]
  clear hgr ho hg HR0 HR0'
  go_loopw [7] (fun i wr => ∃ k : Nat, k ≤ 4 ∧ i = .int .i64 k ∧ SideR L x y gl gr o g t w wr k) (fun i _ => 4 - (intOf i).toNat)
  case atStart => exact ⟨0, by omega, rfl, HR1.out⟩
  case round =>
    obtain ⟨k, hk, rfl, hr⟩ := hrel
    by_cases hlt : k < 4
    · have hd : decide ((k : Int) < 4) = true := by simp; omega
      obtain ⟨q0, q1⟩ := nbs_at x y hlt
      have r0 := cellAt hr.2.2.2.2.1 q0
      have r1 := cellAt hr.2.2.2.2.1 q1
      have HTG := Lib.hid (show tgtS L x y k = if hasB L (nbX x k) (nbY y k) then (L.c ((nbY y k).toNat * 10 + (nbX x k).toNat)).toNat else 4 from rfl)
      have HSB := Lib.hid (sideC_in L x y k)
      have HH := fun (h0 : -128 ≤ nbX x k) (h1 : nbX x k ≤ 127) (h2 : -128 ≤ nbY y k) (h3 : nbY y k ≤ 127) (w : World) h => sIs L HL.out (nbX x k) (nbY y k) gl t h0 h1 h2 h3 w h
      have HQ0 := Lib.hid q0
      have HQ1 := Lib.hid q1
      clear q0 q1
      have hn1 : -1 ≤ nbX x k ∧ nbX x k ≤ 10 := by unfold nbX; split <;> (try split) <;> omega
      have hn2 : -1 ≤ nbY y k ∧ nbY y k ≤ 10 := by unfold nbY; split <;> (try split) <;> omega
      have HI2 := Lib.hid (HIN.out (nbX x k) (nbY y k))
      generalize nbX x k = nx at *
      generalize nbY y k = ny at *
      have HH := HH (by omega) (by omega) (by omega) (by omega)
      rcases twoways (hasB L nx ny) with b | b
      · rw [b] at HH
        have HH := Lib.hid HH
        have htg : tgtS L x y k = 4 := by rw [HTG.out, b]; rfl
        obtain ⟨s, hs⟩ : ∃ s, s = sideC L x y k 4 := ⟨_, rfl⟩
        have hsb := HSB.out 4
        rw [← hs] at hsb
        have HTG4 := Lib.hid htg
        have HS := Lib.hid hs
        have s0 := hsb.1
        have s1 : s ≤ 100 := by omega
        clear b htg hs hsb
        go_wp2_with (first | (go_at_call 48; refine (HH.out _ hr.2.1).mono ?_; rintro e w4 ⟨rfl, hb4⟩; have hr4 := hr.below hb4; have c4 := (blkC hr4.2.2.2.1 4).trans (arr_get (by omega)); rw [← HS.out] at c4; have f4 := blkF hr4.2.2.2.1 (i := 4)))
        refine ⟨?_, by simp [intOf]; omega⟩
        have hr5 : SideR L x y gl gr o g t w (w4.setCell ⟨o, 4, none⟩ (.int .i64 (s + 1))) (k + 1) := hr4.put HTG4.out (by rw [← HS.out])
        first | exact ⟨k + 1, by omega, by go_num, hr5⟩ | ((repeat (apply Exists.intro)); exact ⟨⟨k + 1, by omega, by go_num, hr5⟩, rfl⟩)
      · have hb0 := HI2.out b
        have hpos : 0 ≤ nx ∧ 0 ≤ ny := by
          simp only [hasB, Bool.and_eq_true, decide_eq_true_eq] at b
          exact ⟨b.1, b.2.2.1⟩
        obtain ⟨p, rfl⟩ : ∃ p : Nat, nx = p := ⟨nx.toNat, by omega⟩
        obtain ⟨r, rfl⟩ : ∃ r : Nat, ny = r := ⟨ny.toNat, by omega⟩
        rw [b] at HH
        have HH := Lib.hid HH
        have HK := fun (w : World) h => sAt L HL.out p r (by omega) (by omega) gl t w h
        obtain ⟨c0, c1⟩ := valid_c HL.out HV.out (show r * 10 + p < 100 by omega)
        obtain ⟨q, hq⟩ : ∃ q : Nat, L.c (r * 10 + p) = q := ⟨(L.c (r * 10 + p)).toNat, by omega⟩
        rw [hq] at HK c0 c1
        have HK := Lib.hid HK
        have htg : tgtS L x y k = q := by rw [HTG.out, b, if_pos rfl, Int.toNat_natCast, Int.toNat_natCast, hq]; simp
        have hq3 : q ≤ 3 := by omega
        obtain ⟨s, hs⟩ : ∃ s, s = sideC L x y k q := ⟨_, rfl⟩
        have hsb := HSB.out q
        rw [← hs] at hsb
        have HTG4 := Lib.hid htg
        have HS := Lib.hid hs
        have s0 := hsb.1
        have s1 : s ≤ 100 := by omega
        have z0 : (0 : Int) ≤ q := by omega
        have z1 : (q : Int) < 5 := by omega
        clear b htg hs hsb hq c0 c1 hpos hb0 hn1 hn2
        go_wp2_with (first | (go_at_call 48; refine (HH.out _ hr.2.1).mono ?_; rintro e w4 ⟨rfl, hb4⟩; have hr4 := hr.below hb4; have e0 := cellAt hr4.2.2.2.2.1 HQ0.out; have e1 := cellAt hr4.2.2.2.2.1 HQ1.out) | (go_at_call 49; refine (HK.out _ hr4.2.1).mono ?_; rintro e w5 ⟨rfl, hb5⟩; have hr5 := hr4.below hb5; have c4 := (blkC hr5.2.2.2.1 q).trans (arr_get (by omega)); rw [← HS.out] at c4; have f4 := blkF hr5.2.2.2.1 (i := q)))
        refine ⟨?_, by simp [intOf]; omega⟩
        have hr6 : SideR L x y gl gr o g t w (w5.setCell ⟨o, q, none⟩ (.int .i64 (s + 1))) (k + 1) := hr5.put HTG4.out (by rw [← HS.out])
        first | exact ⟨k + 1, by omega, by go_num, hr6⟩ | ((repeat (apply Exists.intro)); exact ⟨⟨k + 1, by omega, by go_num, hr6⟩, rfl⟩)
    · have hd : decide ((k : Int) < 4) = false := by simp; omega
      have e : k = 4 := by omega
      have E := Lib.hid e
      clear e
      go_wp2_with (first | ((with_reducible refine atDst 37 rfl ?_); refine loadRow 37 rfl rfl rfl rfl Try.underlying41 rfl hr.2.2.2.1 (by rw [arr_size]; exact size5) ?_) | (refine storeRow rfl rfl rfl rfl rfl hr.2.2.1 (by rw [arr_size]; exact size5) (by simp only [arr_size]) (arr_one _ _ _) ?_; intro w6 j1 j2 j3 j4))
      exact retRow rfl rfl j1 Try.underlying41 rfl (by rw [arr_size]; exact size5) rfl ⟨by rw [E.out], hr.1.trans (j3.mono HGR)⟩
end Go.Proofs.Ytchhjdjdhlfhlaa.L
