/- Walks: printed by a program of this session; nothing here is trusted. -/
import Derived.Test.YtohooogfaeogeaaQCx0
import Derived.Test.YtohooogfaeogeaaQCx3
namespace Go.Proofs.Ytohooogfaeogeaa.QC
open Go.RowKit Go.Proofs.YtohooogfaeogeaaW.PrintWords Go.Proofs.YtohooogfaeogeaaW.PrintLast Go.Proofs.YtohooogfaeogeaaW.PrintMore
attribute [local go_sem] max2_int min2_int max_two min_two max_three min_three max_four min_four   -- for this text's walks alone
set_option linter.unusedVariables false
set_option linter.unusedSimpArgs false

/-! ### impl.FewestStrips, by hand: the search over all ways -/
section
open Go Go.RowKit Go.Proofs.Ytohooogfaeogeaa.B

theorem drop_rd (l : List Int) (j : Nat) (h : j < l.length) : l.drop j = rd l (j : Int) :: l.drop (j + 1) := by
  rw [List.drop_eq_getElem_cons h]
  unfold rd
  rw [Int.toNat_natCast, List.getD_eq_getElem?_getD, List.getElem?_eq_getElem h]
  rfl
theorem rd_in (l : List Int) (j : Nat) (h : j < l.length) : rd l (j : Int) ∈ l := by
  unfold rd
  rw [Int.toNat_natCast, List.getD_eq_getElem?_getD, List.getElem?_eq_getElem h]
  exact List.getElem_mem h
set_option maxHeartbeats 8000000 in
set_option maxRecDepth 100000 in
theorem groupC (L : List Int) (o : Int) (hL : L.length ≤ 8) (A : Option Addr) (c : Nat) (w : World) (hr : Kd.C (Kd.int .i64) w A L.length L) :
    Calls Try.prog 18 #[.slice A L.length c, .int .i64 o] w fun e w' => ∃ v, e = .returned v ∧ Kd.R (Kd.int .i64) 2 w' w.heap.size (fun _ => True) v (gi 0 L o) ∧ Below w.heap.size w w' := by
  have HR := Aside0.mk hr
  have HL := Aside0.mk hL
  clear hr hL
  go_enter Try.func18, Try.ntmps18
  go_wp2_with (first | ((with_reducible refine gate_dst (N := 8) rfl ?_); refine Kd.R_lit (Kd.int .i64) (w0 := w) w.heap.size 2 ?hg (N := 8) ?hd (xs := ([] : List Int)) (inner := []) (ok := fun _ => True) (okp := fun _ => False) ?hr (Reps.none _ _) (fun _ hk => hk.elim) ?hf (Below.refl _ _) (Nat.le_refl _) (by simp) ?_; (case hd => rfl); (case hg => rfl); (case hr => first | (go_simp; done) | (go_simp; rfl)); (case hf => trivial); intro v7 w7 hr7 hb7 g7 hat7))
  have HB7 := Aside0.mk hb7
  have HO7 := Aside0.mk hr7
  clear hr7 hb7 g7 hat7
  go_loopw [5, 11] (fun v5 v11 wr => ∃ (j : Nat) (acc : List Int), v11 = .int .i64 j ∧ Aside0 (j ≤ L.length) ∧ Aside0 (acc ++ gi j (L.drop j) o = gi 0 L o) ∧ Aside0 (acc.length ≤ j) ∧ Aside0 (Kd.R (Kd.int .i64) 2 wr w.heap.size (fun _ => True) v5 acc) ∧ Aside0 (Below w.heap.size w wr)) (fun _ v11 _ => (L.length - intOf v11).toNat)
  case atStart => exact ⟨0, [], rfl, ⟨by omega⟩, ⟨rfl⟩, ⟨by simp⟩, HO7, HB7⟩
  case round =>
    obtain ⟨j, acc, rfl, HJ, HE, HA, HO, HB⟩ := hrel
    clear HB7 HO7
    have hj := HJ.out
    by_cases hlt : j < L.length
    · have hd : decide ((j : Int) < (L.length : Int)) = true := decide_eq_true (by omega)
      obtain ⟨ad, eA, hx⟩ := Kd.at_int HR.out (j : Int) (by omega) (by omega)
      cases eA
      rw [Int.toNat_natCast] at hx
      replace hx := (HB.out.cell (World.block_lt_of_cell? w _ hx)).trans hx
      have pd : (0 ≤ (j : Int)) = True := eq_true (by omega)
      have qd : ((j : Int) < (L.length : Int)) = True := eq_true (by omega)
      have x1 : IntKind.i64.wrap ((j : Int) + 1) = (j : Int) + 1 := IntWalk.i64_in _ (by have := HL.out; omega)
      have he := HE.out
      rw [drop_rd L j hlt] at he
      simp only [gi] at he
      generalize rd L (j : Int) = y at he hx
      by_cases h : y = o
      · rw [if_pos h] at he
        have hq : (y == o) = true := by simpa using h
        have HE2 : Aside0 ((acc ++ [(j : Int)]) ++ gi (j + 1) (L.drop (j + 1)) o = gi 0 L o) := ⟨by rw [List.append_assoc]; exact he⟩
        clear he h HE hlt
        go_wp2_with (first | ((with_reducible refine gate_builtin (b := .append) (xs := #[.tmp 19, .tmp 21]) rfl ?_); at_builtin; refine Kd.R_append (Kd.int .i64) (w0 := w) w.heap.size rfl (.tmp 19) (.tmp 21) 22 2 (.int .i64 0) 8 rfl Try.underlying22 info2 rfl (by decide) (by omega) u5 acc (j : Int) [.int .i64 (j : Int)] (fun _ => True) (fun _ => False) rfl rfl ?aP (fun _ hk => hk.elim) ?aF ?aO ?aB ?aS ?aL ?_; (case aP => exact rfl); (case aB => exact HB.out); (case aF => exact (fun _ _ => trivial)); (case aO => exact HO.out); (case aS => exact HB.out.size); (case aL => have := HA.out; have := HL.out; omega); intro vE wE hoE hbE hgE hatE))
        refine ⟨?_, by first | (simp [intOf]; done) | (have hq_ := of_eq_true qd; simp [intOf, x1]; omega)⟩
        exact ⟨j + 1, acc ++ [(j : Int)], by first | rfl | go_num, ⟨by have : (j : Int) < (L.length : Int) := of_eq_true qd; omega⟩, HE2, ⟨by have := HA.out; simp; omega⟩, ⟨hoE⟩, ⟨hbE⟩⟩
      · rw [if_neg h] at he
        have hq : (y == o) = false := by simpa using h
        have HE2 : Aside0 (acc ++ gi (j + 1) (L.drop (j + 1)) o = gi 0 L o) := ⟨he⟩
        clear he h HE hlt
        go_wp2
        refine ⟨?_, by first | (simp [intOf]; done) | (have hq_ := of_eq_true qd; simp [intOf, x1]; omega)⟩
        exact ⟨j + 1, acc, by first | rfl | go_num, ⟨by have : (j : Int) < (L.length : Int) := of_eq_true qd; omega⟩, HE2, ⟨by have := HA.out; omega⟩, HO, HB⟩
    · have hd : decide ((j : Int) < (L.length : Int)) = false := decide_eq_false (by omega)
      have he := HE.out
      rw [List.drop_eq_nil_of_le (by omega)] at he
      simp only [gi, List.append_nil] at he
      clear HE
      go_wp2
      go_ret
      exact ⟨_, rfl, by rw [← he]; exact HO.out, HB.out⟩
set_option maxHeartbeats 8000000 in
set_option maxRecDepth 100000 in
theorem rightC (ws : List Int) (hw : ∀ x ∈ ws, 0 ≤ x ∧ x ≤ 5000) (h8 : ws.length ≤ 8) (strip : Int) (A0 : Option Addr) (c0 gl gs : Nat) (wB : World) (hr0 : Kd.C (Kd.int .i64) wB A0 ws.length ws) (L : List Int) (o : Int) (hL : L.length ≤ ws.length) (AL : Option Addr) (cL : Nat) (w : World) (hB : Below wB.heap.size wB w) (hg1 : w.cell? ⟨gl, 0, none⟩ = some (.slice A0 ws.length c0)) (hg2 : w.cell? ⟨gs, 0, none⟩ = some (.int .i64 strip)) (hr : Kd.C (Kd.int .i64) w AL L.length L) :
    Calls Try.prog 17 #[.slice AL L.length cL, .int .i64 o, .pointer (some ⟨gl, 0, none⟩), .pointer (some ⟨gs, 0, none⟩)] w fun e w' => e = .returned (.bool (decide (sumG ws L o ≤ strip))) ∧ Below w.heap.size w w' := by
  have HR0 := Aside0.mk (Kd.C_below hr0 hB)
  have HG := Aside0.mk (groupC L o (by omega) AL cL w hr)
  have hsum := sumI_gi ws o L 0 (by omega)
  rw [List.drop_zero] at hsum
  have hmem := gi_mem o L 0
  have hlen := gi_len o L 0
  obtain ⟨G, hG⟩ : ∃ G, gi 0 L o = G := ⟨_, rfl⟩
  rw [hG] at HG hsum hmem hlen
  have HS := Aside0.mk hsum
  have HM : Aside0 (∀ x ∈ G, 0 ≤ x ∧ x < ws.length) := ⟨fun x hx => by have := hmem x hx; omega⟩
  have HLN : Aside0 (G.length ≤ 8) := ⟨by omega⟩
  have HW := Aside0.mk hw
  have H1 := Aside0.mk hg1
  have H2 := Aside0.mk hg2
  clear hr0 hr hB hsum hmem hlen hw hg1 hg2 hG hL h8
  go_enter Try.func17, Try.ntmps17
  go_wp2_with (first | (go_at_call 18; refine HG.out.mono ?_; rintro e w1 ⟨v1, rfl, ho1, hb1⟩; obtain ⟨A1, c1, rfl, hc1, hC1⟩ := Kd.R_reads ho1))
  have HC1 := Aside0.mk hC1
  have HB1 := Aside0.mk hb1
  clear ho1 hb1 hC1 hc1 HG
  go_loopw [7, 14] (fun v7 v14 wr => ∃ (j : Nat) (s : Int), v7 = .int .i64 s ∧ v14 = .int .i64 j ∧ Aside0 (j ≤ G.length) ∧ Aside0 (s + sumI ws (G.drop j) = sumG ws L o) ∧ Aside0 (0 ≤ s ∧ s ≤ 5000 * j) ∧ Aside0 (Below w1.heap.size w1 wr)) (fun _ v14 _ => (G.length - intOf v14).toNat)
  case atStart => exact ⟨0, 0, rfl, rfl, ⟨by omega⟩, ⟨by rw [List.drop_zero, HS.out]; omega⟩, ⟨by omega⟩, ⟨Below.refl _ _⟩⟩
  case round =>
    obtain ⟨j, s, rfl, rfl, HJ, HE, HSB, HB⟩ := hrel
    have hj := HJ.out
    have hsb := HSB.out
    have hBW : Below w.heap.size w wr := belW HB1.out HB.out
    have hg1 := (hBW.cell (World.block_lt_of_cell? w _ H1.out)).trans H1.out
    have hg2 := (hBW.cell (World.block_lt_of_cell? w _ H2.out)).trans H2.out
    have hl8 := HLN.out
    by_cases hlt : j < G.length
    · have hd : decide ((j : Int) < (G.length : Int)) = true := decide_eq_true (by omega)
      obtain ⟨ad, eA, hx⟩ := Kd.at_int HC1.out (j : Int) (by omega) (by omega)
      cases eA
      rw [Int.toNat_natCast] at hx
      replace hx := (HB.out.cell (World.block_lt_of_cell? w1 _ hx)).trans hx
      have pd : (0 ≤ (j : Int)) = True := eq_true (by omega)
      have qd : ((j : Int) < (G.length : Int)) = True := eq_true (by omega)
      have x1 : IntKind.i64.wrap ((j : Int) + 1) = (j : Int) + 1 := IntWalk.i64_in _ (by omega)
      have he := HE.out
      rw [drop_rd G j hlt] at he
      have hi := HM.out _ (rd_in G j hlt)
      generalize rd G (j : Int) = i at he hx hi
      obtain ⟨ad0, eA0, hy⟩ := Kd.at_int HR0.out i hi.1 hi.2
      cases eA0
      replace hy := (hBW.cell (World.block_lt_of_cell? w _ hy)).trans hy
      have hin : 0 ≤ rd ws i ∧ rd ws i ≤ 5000 := by
        have e1 : i = ((i.toNat : Nat) : Int) := by omega
        rw [e1]
        exact HW.out _ (rd_in ws _ (by omega))
      have hsI : sumI ws (i :: G.drop (j + 1)) = rd ws i + sumI ws (G.drop (j + 1)) := rfl
      rw [hsI] at he
      generalize rd ws i = y at he hy hin
      have p2 : (0 ≤ i) = True := eq_true hi.1
      have q2 : (i < (ws.length : Int)) = True := eq_true hi.2
      have x2 : IntKind.i64.wrap (s + y) = s + y := IntWalk.i64_in _ (by omega)
      have HE2 : Aside0 ((s + y) + sumI ws (G.drop (j + 1)) = sumG ws L o) := ⟨by omega⟩
      have HS2 : Aside0 (0 ≤ s + y ∧ s + y ≤ 5000 * ((j + 1 : Nat) : Int)) := ⟨by omega⟩
      clear he hsI HE HSB hsb hin hi hlt
      go_wp2
      refine ⟨?_, by first | (simp [intOf]; done) | (have hq_ := of_eq_true qd; simp [intOf, x1]; omega)⟩
      exact ⟨j + 1, s + y, rfl, by first | rfl | go_num, ⟨by have : (j : Int) < (G.length : Int) := of_eq_true qd; omega⟩, HE2, HS2, HB⟩
    · have hd : decide ((j : Int) < (G.length : Int)) = false := decide_eq_false (by omega)
      have he := HE.out
      rw [List.drop_eq_nil_of_le (by omega)] at he
      have he : s = sumG ws L o := by simp only [sumI] at he; omega
      clear HE
      go_wp2
      go_ret
      exact ⟨by rw [he]; rfl, hBW⟩

/-- Where the boxes lie. -/
structure BX where
  gl : Nat
  gs : Nat
  bl : Nat
  bn : Nat
  bf : Nat
  bb : Nat
  br : Nat
  bt : Nat
def BX.ok (x : BX) (k : Nat) : Prop := k ≠ x.gl ∧ k ≠ x.gs ∧ k ≠ x.bl ∧ k ≠ x.bn ∧ k ≠ x.bf ∧ k ≠ x.bb ∧ k ≠ x.br ∧ k ≠ x.bt
structure BX.Dis (x : BX) (n : Nat) : Prop where
  l : n ≤ x.bl ∧ x.bl ≠ x.gl ∧ x.bl ≠ x.gs ∧ x.bl ≠ x.bn ∧ x.bl ≠ x.bf ∧ x.bl ≠ x.bb ∧ x.bl ≠ x.br ∧ x.bl ≠ x.bt
  f : n ≤ x.bf ∧ x.bf ≠ x.gl ∧ x.bf ≠ x.gs ∧ x.bf ≠ x.bn ∧ x.bf ≠ x.bb ∧ x.bf ≠ x.br ∧ x.bf ≠ x.bt
  b : n ≤ x.bb ∧ x.bb ≠ x.gl ∧ x.bb ≠ x.gs ∧ x.bb ≠ x.bn ∧ x.bb ≠ x.br ∧ x.bb ≠ x.bt
def rightV (x : BX) : Value := .func (.func 17) #[] #[.pointer (some ⟨x.gl, 0, none⟩), .pointer (some ⟨x.gs, 0, none⟩)]
def tryV (x : BX) : Value := .func (.func 26) #[] #[.pointer (some ⟨x.bl, 0, none⟩), .pointer (some ⟨x.bn, 0, none⟩), .pointer (some ⟨x.bf, 0, none⟩), .pointer (some ⟨x.bb, 0, none⟩), .pointer (some ⟨x.br, 0, none⟩), .pointer (some ⟨x.bt, 0, none⟩)]
/-- The search as it stands. -/
structure ST (ws : List Int) (strip : Int) (A0 : Option Addr) (c0 : Nat) (x : BX) (wB : World) (L B : List Int) (F : Int) (vL vB : Value) (w : World) : Prop where
  base : Below wB.heap.size wB w
  xgl : w.heap[x.gl]? = some (.cells #[.slice A0 ws.length c0] 22 (0, 0))
  xgs : w.heap[x.gs]? = some (.cells #[.int .i64 strip] 2 (0, 0))
  xl : w.heap[x.bl]? = some (.cells #[vL] 22 (0, 0))
  xn : w.heap[x.bn]? = some (.cells #[.int .i64 ws.length] 3 (0, 0))
  xf : w.heap[x.bf]? = some (.cells #[.int .i64 F] 2 (0, 0))
  xb : w.heap[x.bb]? = some (.cells #[vB] 22 (0, 0))
  xr : w.heap[x.br]? = some (.cells #[rightV x] 28 (0, 0))
  xt : w.heap[x.bt]? = some (.cells #[tryV x] 39 (0, 0))
  oL : Kd.R (Kd.int .i64) 2 w wB.heap.size x.ok vL L
  oB : Kd.R (Kd.int .i64) 2 w wB.heap.size (fun k => x.ok k ∧ some k ≠ vL.ownBlock) vB B
section
variable {ws : List Int} {strip : Int} {A0 : Option Addr} {c0 : Nat} {x : BX} {wB : World} {L B L' : List Int} {F : Int} {vL vB v : Value} {w w1 : World}
theorem ST.below (S : ST ws strip A0 c0 x wB L B F vL vB w) (hb : Below w.heap.size w w1) : ST ws strip A0 c0 x wB L B F vL vB w1 :=
  ⟨belW S.base hb, blkB hb S.xgl (blkLt S.xgl), blkB hb S.xgs (blkLt S.xgs), blkB hb S.xl (blkLt S.xl), blkB hb S.xn (blkLt S.xn), blkB hb S.xf (blkLt S.xf), blkB hb S.xb (blkLt S.xb), blkB hb S.xr (blkLt S.xr), blkB hb S.xt (blkLt S.xt), Kd.R_below S.oL hb, Kd.R_below S.oB hb⟩
theorem ST.lt (S : ST ws strip A0 c0 x wB L B F vL vB w) : ∀ k, w.heap.size ≤ k → x.ok k := fun k hk => by
  have h1 := blkLt S.xgl
  have h2 := blkLt S.xgs
  have h3 := blkLt S.xl
  have h4 := blkLt S.xn
  have h5 := blkLt S.xf
  have h6 := blkLt S.xb
  have h7 := blkLt S.xr
  have h8 := blkLt S.xt
  unfold BX.ok
  omega
theorem ok_ne {g : Nat} {r : Option Nat} (h : ∀ k, r = some k → x.ok k) (hg : ¬ x.ok g) : some g ≠ r := fun e => hg (h g e.symm)
/-- The boxes, behind an append to the list. -/
theorem ST.grownB (S : ST ws strip A0 c0 x wB L B F vL vB w) (hg : w.grownBy w1 vL.ownBlock) {g : Nat} {o : Obj} (h : w.heap[g]? = some o) (hx : ¬ x.ok g) : w1.heap[g]? = some o :=
  (hg.block g (blkLt h) (ok_ne S.oL.1 hx)).trans h
/-- The best so far, behind an append to the list. -/
theorem ST.grownO (S : ST ws strip A0 c0 x wB L B F vL vB w) (hg : w.grownBy w1 vL.ownBlock) (hat : v.ownBlock = vL.ownBlock ∨ ∃ b, v.ownBlock = some b ∧ w.heap.size ≤ b) : Kd.R (Kd.int .i64) 2 w1 wB.heap.size (fun k => x.ok k ∧ some k ≠ v.ownBlock) vB B := by
  have h1 := Kd.R_grown (Kd.R_bound S.oB) hg (fun k hk => hk.1.2)
  refine Kd.R_mono h1 (fun k hk => ⟨hk.1.1, ?_⟩)
  rcases hat with e | ⟨b, e, hb⟩
  · rw [e]; exact hk.1.2
  · rw [e]
    have := hk.2.2.1
    intro h
    injection h with h
    omega
/-- The list's box written. -/
theorem ST.putL (D : x.Dis wB.heap.size) (hB : Below wB.heap.size wB w)
    (xgl : w.heap[x.gl]? = some (.cells #[.slice A0 ws.length c0] 22 (0, 0))) (xgs : w.heap[x.gs]? = some (.cells #[.int .i64 strip] 2 (0, 0))) (xl : w.heap[x.bl]? = some (.cells #[v] 22 (0, 0)))
    (xn : w.heap[x.bn]? = some (.cells #[.int .i64 ws.length] 3 (0, 0))) (xf : w.heap[x.bf]? = some (.cells #[.int .i64 F] 2 (0, 0))) (xb : w.heap[x.bb]? = some (.cells #[vB] 22 (0, 0)))
    (xr : w.heap[x.br]? = some (.cells #[rightV x] 28 (0, 0))) (xt : w.heap[x.bt]? = some (.cells #[tryV x] 39 (0, 0)))
    (oL : Kd.R (Kd.int .i64) 2 w wB.heap.size x.ok vL L) (oB : Kd.R (Kd.int .i64) 2 w wB.heap.size (fun k => x.ok k ∧ some k ≠ vL.ownBlock) vB B) :
    ST ws strip A0 c0 x wB L B F vL vB (w.setCell ⟨x.bl, 0, none⟩ vL) := by
  obtain ⟨d0, d1, d2, d3, d4, d5, d6, d7⟩ := D.l
  exact ⟨belS hB d0, blkO xgl (Ne.symm d1), blkO xgs (Ne.symm d2), blkS xl, blkO xn (Ne.symm d3), blkO xf (Ne.symm d4), blkO xb (Ne.symm d5), blkO xr (Ne.symm d6), blkO xt (Ne.symm d7), Kd.R_far oL (fun k hk => hk.2.2.1) _, Kd.R_far oB (fun k hk => hk.1.2.2.1) _⟩
/-- Appended, and the box written. -/
theorem ST.app (S : ST ws strip A0 c0 x wB L B F vL vB w) (D : x.Dis wB.heap.size) (hB : Below wB.heap.size wB w1) (hg : w.grownBy w1 vL.ownBlock) (ho : Kd.R (Kd.int .i64) 2 w1 wB.heap.size x.ok v L') (hat : v.ownBlock = vL.ownBlock ∨ ∃ b, v.ownBlock = some b ∧ w.heap.size ≤ b) :
    ST ws strip A0 c0 x wB L' B F v vB (w1.setCell ⟨x.bl, 0, none⟩ v) :=
  ST.putL D hB (S.grownB hg S.xgl (by simp [BX.ok])) (S.grownB hg S.xgs (by simp [BX.ok])) (S.grownB hg S.xl (by simp [BX.ok])) (S.grownB hg S.xn (by simp [BX.ok])) (S.grownB hg S.xf (by simp [BX.ok])) (S.grownB hg S.xb (by simp [BX.ok])) (S.grownB hg S.xr (by simp [BX.ok])) (S.grownB hg S.xt (by simp [BX.ok])) ho (S.grownO hg hat)
/-- Cut again, and the box written. -/
theorem ST.cut {A1 : Option Addr} {n1 c1 m : Nat} (S : ST ws strip A0 c0 x wB L B F (.slice A1 n1 c1) vB w) (D : x.Dis wB.heap.size) (hm : m ≤ L.length) :
    ST ws strip A0 c0 x wB (L.take m) B F (.slice A1 m c1) vB (w.setCell ⟨x.bl, 0, none⟩ (.slice A1 m c1)) :=
  ST.putL D S.base S.xgl S.xgs S.xl S.xn S.xf S.xb S.xr S.xt (Kd.R_take S.oL hm) (by have h := S.oB; cases A1 <;> exact h)
/-- A better way found: the two boxes written. -/
theorem ST.best (S : ST ws strip A0 c0 x wB L B F vL vB w) (D : x.Dis wB.heap.size) (hb : Below w.heap.size w w1) (ho : Kd.R (Kd.int .i64) 2 w1 w.heap.size (fun _ => True) v L') (G : Int) :
    ST ws strip A0 c0 x wB L L' G vL v ((w1.setCell ⟨x.bb, 0, none⟩ v).setCell ⟨x.bf, 0, none⟩ (.int .i64 G)) := by
  have T := S.below hb
  obtain ⟨f0, f1, f2, f3, f4, f5, f6⟩ := D.f
  obtain ⟨b0, b1, b2, b3, b4, b5⟩ := D.b
  obtain ⟨d0, d1, d2, d3, d4, d5, d6, d7⟩ := D.l
  have ho2 : Kd.R (Kd.int .i64) 2 w1 wB.heap.size (fun k => x.ok k ∧ some k ≠ vL.ownBlock) v L' := Kd.R_mono (Kd.R_lower (Kd.R_bound ho) S.base.size) (fun k hk => ⟨S.lt k hk.2.1, fun e => by
    have := Kd.R_lt S.oL k e.symm
    have := hk.2.1
    omega⟩)
  refine ⟨belS (belS T.base b0) f0, blkO (blkO T.xgl (Ne.symm b1)) (Ne.symm f1), blkO (blkO T.xgs (Ne.symm b2)) (Ne.symm f2), blkO (blkO T.xl d5) d4, blkO (blkO T.xn (Ne.symm b3)) (Ne.symm f3), blkS (blkO T.xf f4), blkO (blkS T.xb) (Ne.symm f4), blkO (blkO T.xr (Ne.symm b4)) (Ne.symm f5), blkO (blkO T.xt (Ne.symm b5)) (Ne.symm f6), ?_, ?_⟩
  · exact Kd.R_far (Kd.R_far T.oL (fun k hk => hk.2.2.2.2.2.1) _) (fun k hk => hk.2.2.2.2.1) _
  · exact Kd.R_far (Kd.R_far ho2 (fun k hk => hk.1.2.2.2.2.2.1) _) (fun k hk => hk.1.2.2.2.2.1) _
end
def cloneI.f (l0 : List Int) : Option ((List Int)) := (some (([] : List Int) : List Int)).bind fun y147 => (if y147.length + l0.length < 17592186044416 then (some (y147 ++ l0)) else (none))
set_option maxHeartbeats 8000000 in
set_option maxRecDepth 100000 in
theorem cloneI.calls (A0 : Option Addr) (c0 : Nat) (l0 : List Int) (r : List Int) (w : World) (hr0 : Kd.C (Kd.int .i64) w A0 l0.length l0) (hc0 : l0.length ≤ c0) (h : cloneI.f l0 = some r) :
    Calls Try.prog 27 #[.slice A0 l0.length c0] w fun e w' => ∃ v0_ : Value, e = .returned (v0_) ∧ Kd.R (Kd.int .i64) 2 w' w.heap.size (fun _ => True) v0_ r ∧ Below w.heap.size w w' := by
  have HR0 := Aside0.mk hr0
  have HC0 := Aside0.mk hc0
  clear hr0 hc0
  have HB := Aside0.mk (Below.refl w.heap.size w)
  have H : ((some (([] : List Int) : List Int)).bind fun y147 => (if y147.length + l0.length < 17592186044416 then (some (y147 ++ l0)) else (none))) = some r := h
  clear h
  obtain ⟨y147, hy147⟩ : ∃ y_ : List Int, y_ = (([] : List Int)) := ⟨_, rfl⟩
  replace H : (if y147.length + l0.length < 17592186044416 then (some (y147 ++ l0)) else (none)) = some r := by first | (rw [hy147]; with_reducible exact H) | (have H2_ := (Option.bind_some _ _).symm.trans H; rw [hy147]; with_reducible exact H2_) | (have H2_ := (Option.bind_some _ _).symm.trans H; with_reducible exact H2_) | with_reducible exact H | (rw [hy147]; exact H) | exact H
  have Ny147 := Aside0.mk hy147
  clear hy147
  by_cases c2 : y147.length + l0.length < 17592186044416
  · rw [if_pos c2] at H
    have LMc2 := Aside0.mk c2
    clear c2
    obtain ⟨y150, hy150⟩ : ∃ y_ : List Int, y_ = (y147 ++ l0) := ⟨_, rfl⟩
    replace H : (some y150) = some r := by first | (rw [hy150]; with_reducible exact H) | (have H2_ := (Option.bind_some _ _).symm.trans H; rw [hy150]; with_reducible exact H2_) | (have H2_ := (Option.bind_some _ _).symm.trans H; with_reducible exact H2_) | with_reducible exact H | (rw [hy150]; exact H) | exact H
    have Ny150 := Aside0.mk hy150
    clear hy150
    obtain rfl := Option.some.inj H
    have qn : ∀ (w : World) (a : Option Addr) (n c n' c' : Nat), (binOp .eql 22 (.slice a n c) (.slice none n' c')).run Try.prog w = .ok (.bool a.isNone) w := fun w a n c n' c' => Lib.run_eql_slice_nil w _ _ a n c n' c' Try.underlying22
    rcases A0 with _ | a0_
    · obtain rfl : l0 = [] := by
        have hk := HR0.out
        cases l0 with
        | nil => rfl
        | cons x xs => obtain ⟨ad, e, _⟩ := hk.2.2 (by simp); cases e
      go_enter Try.func27, Try.ntmps27
      go_wp2
      go_ret
      refine ⟨_, rfl, ?_, Below.refl _ _⟩
      have e := Ny150.out
      rw [Ny147.out] at e
      have e2 : y150 = [] := e
      rw [e2]
      exact Kd.R_nil _ _ _ _ _
    · go_enter Try.func27, Try.ntmps27
      go_wp2_with (first | ((with_reducible refine gate_dst (N := 5) rfl ?_); refine Kd.R_lit (Kd.int .i64) _ 2 ?hg (N := 5) ?hd (xs := ([] : List Int)) (inner := []) (ok := fun _ => True) (okp := fun _ => True) ?hr ?hp (fun _ hk => hk) trivial (Below.refl _ _) (Nat.le_refl _) (by simp) ?_; (case hd => rfl); (case hg => rfl); (case hr => first | (go_simp; done) | (go_simp; rfl)); (case hp => exact (Reps.none _ _)); intro v148 w3 ho4 hb hg_ hnew_; clear hg_ hnew_; (first | rw [← Ny147.out] at ho4 | (simp only [Int.reduceToNat] at ho4; rw [← Ny147.out] at ho4)); have n0_ := Aside0.mk (Kd.R_lower ho4 (below_size (by repeat (first | (with_reducible first | exact HB.out | apply below_alloc | apply pw_below_drewN | apply below_drew1) | exact HB.out)))); have n1_ := Aside0.mk (below_step (by repeat (first | (with_reducible first | exact HB.out | apply below_alloc | apply pw_below_drewN | apply below_drew1) | exact HB.out)) hb); clear HB; have HO149 := n0_; have HB := n1_; clear n0_ n1_; clear hb ho4) | ((with_reducible refine gate_builtin (b := .append) (xs := #[.tmp 5, .tmp 6]) rfl ?_); at_builtin; refine Kd.R_append_rows (Kd.int .i64) (w0 := w) w.heap.size rfl (.tmp 5) (.tmp 6) 22 2 (.int .i64 0) 8 rfl Try.underlying22 info2 rfl (by decide) (by omega) v148 y147 l0 _ _ _ (fun _ => True) (fun _ => False) rfl rfl ?aO ?aR (fun _ _ h => h) (fun _ h => h.elim) ?aF ?aB ?aS ?aL ?_; (case aR => repeat (first | exact (Kd.C_below HR0.out HB.out) | (with_reducible refine Kd.C_alloc ?_ _) | (with_reducible refine Kd.C_drewN ?_ _) | (with_reducible refine Kd.C_drew ?_))); (case aB => exact (by repeat (first | (with_reducible first | exact HB.out | apply below_alloc | apply pw_below_drewN | apply below_drew1) | exact HB.out))); (case aF => exact (fun _ _ => trivial)); (case aO => exact (by (with_reducible repeat (first | apply Kd.R_alloc | apply Kd.R_drewN | apply Kd.R_drew)); exact HO149.out)); (case aS => exact (below_size (by repeat (first | (with_reducible first | exact HB.out | apply below_alloc | apply pw_below_drewN | apply below_drew1) | exact HB.out)))); (case aL => have := LMc2.out; omega); intro v151 w5 ho hb hg hat; rw [← Ny150.out] at ho; have n0_ := Aside0.mk (hb); have n1_ := Aside0.mk (ho); clear HB; clear HO149; have HB := n0_; have HO152 := n1_; clear n0_ n1_; clear ho hb hg hat))
      go_ret
      exact ⟨_, by first | rfl | (simp [errW_none, errW_some] <;> rfl) | (simp [*, errW_none, errW_some] <;> rfl), by (with_reducible repeat (first | apply Kd.R_alloc | apply Kd.R_drewN | apply Kd.R_drew)); exact HO152.out, by repeat (first | (with_reducible first | exact HB.out | apply below_alloc | apply pw_below_drewN | apply below_drew1) | exact HB.out)⟩
  · rw [if_neg c2] at H
    exact absurd H (by simp)
attribute [local go_sem] max2_int max_two

def stepS (ws : List Int) (strip : Int) (d : Nat) (L : List Int) (g : Int) : Int → List Int × Int → List Int × Int := fun o s => if sumG ws (L ++ [o]) o ≤ strip then tryS ws strip d (L ++ [o]) (max g (o + 1)) s else s
theorem try_succ (ws : List Int) (strip : Int) (d : Nat) (L : List Int) (g : Nat) (s : List Int × Int) : tryS ws strip (d + 1) L g s = forS (stepS ws strip d L g) (g + 1) 0 s := by
  have e : ((g : Int) + 1).toNat = g + 1 := by omega
  rw [tryS, e]
  rfl
theorem cutI {A : Option Addr} {c m n : Nat} (LL : List Int) (hn : LL.length = n) (hm : n = m + 1) (hc : LL.length ≤ c) : ∀ W : World, (Instr.slice 22 (.slice A n c) none (some (.int .i64 m)) none).run Try.prog W = .ok (.slice A m c) W := by
  obtain ⟨i, hi, hz⟩ := Option.map_eq_some_iff.1 info2
  simp only [Prod.mk.injEq] at hz
  subst hn
  have h := (print_take_int (k := .i64) (P := Try.prog) 22 2 Try.underlying22 hi hz.2.1 A c LL (m : Int) (by omega) (by omega) hc).1
  intro W
  have e := h W
  rw [List.length_take, Int.toNat_natCast, Nat.min_eq_left (by omega)] at e
  exact e
set_option maxHeartbeats 8000000 in
set_option maxRecDepth 100000 in
theorem tryC (ws : List Int) (hw : ∀ x ∈ ws, 0 ≤ x ∧ x ≤ 5000) (h8 : ws.length ≤ 8) (strip : Int) (A0 : Option Addr) (c0 : Nat) (x : BX) (wB : World) (hr0 : Kd.C (Kd.int .i64) wB A0 ws.length ws) (D : x.Dis wB.heap.size) :
    ∀ (d : Nat) (L : List Int) (g : Nat) (s : List Int × Int) (vL vB : Value) (w : World), L.length + d = ws.length → g ≤ L.length → ST ws strip A0 c0 x wB L s.1 s.2 vL vB w →
    Calls Try.prog 26 #[.int .i64 g, .pointer (some ⟨x.bl, 0, none⟩), .pointer (some ⟨x.bn, 0, none⟩), .pointer (some ⟨x.bf, 0, none⟩), .pointer (some ⟨x.bb, 0, none⟩), .pointer (some ⟨x.br, 0, none⟩), .pointer (some ⟨x.bt, 0, none⟩)] w fun e w' =>
      e = .returned (.tuple #[]) ∧ ∃ vL' vB', ST ws strip A0 c0 x wB L (tryS ws strip d L g s).1 (tryS ws strip d L g s).2 vL' vB' w' := by
  intro d
  induction d with
  | zero =>
    intro L g s vL vB w hd hg S
    obtain ⟨AL, cL, rfl, hcL, hCL⟩ := Kd.R_reads S.oL
    have hld : L.length = ws.length := by omega
    have c1 : w.cell? ⟨x.bl, 0, none⟩ = some (.slice AL L.length cL) := (blkC S.xl 0).trans rfl
    have c2 : w.cell? ⟨x.bn, 0, none⟩ = some (.int .i64 ws.length) := (blkC S.xn 0).trans rfl
    have c3 : w.cell? ⟨x.bf, 0, none⟩ = some (.int .i64 s.2) := (blkC S.xf 0).trans rfl
    have e1 : ((L.length : Int) == (ws.length : Int)) = true := by simp [hld]
    have e2 : (L.length == ws.length) = true := by simp [hld]
    have e3 : decide (L.length = ws.length) = true := by simp [hld]
    have HS := Aside0.mk S
    have HD := Aside0.mk D
    have HC := Aside0.mk hCL
    have hcl : cloneI.f L = some L := by
      unfold cloneI.f
      simp only [Option.bind_some, List.length_nil, Nat.zero_add, List.nil_append]
      exact if_pos (by omega)
    have HCL := Aside0.mk hcl
    clear S D hCL hw hr0 hcl hld
    by_cases hF : (g : Int) < s.2
    · have q : decide ((g : Int) < s.2) = true := decide_eq_true hF
      have hp : tryS ws strip 0 L g s = (L, (g : Int)) := by rw [tryS, pickS, if_pos hF]
      rw [hp]
      clear hF hp
      go_enter Try.func26, Try.ntmps26
      go_wp2_with (first | (go_at_call 27; refine (cloneI.calls AL cL L L w HC.out hcL HCL.out).mono ?_; rintro e w1 ⟨vC, rfl, hoC, hbC⟩; obtain ⟨AC, cC, rfl⟩ := Kd.R_slice hoC; have hc4 : w1.cell? ⟨x.bb, 0, none⟩ = some vB := (blkC (HS.out.below hbC).xb 0).trans rfl; have hf4 := blkF (HS.out.below hbC).xb 0; have hc5 : w1.cell? ⟨x.bf, 0, none⟩ = some (.int .i64 s.2) := (blkC (HS.out.below hbC).xf 0).trans rfl; have hf5 := blkF (HS.out.below hbC).xf 0; have hne := HD.out.f.2.2.2.2.1; have hne2 := Ne.symm hne))
      first | go_end0 | ((try simp only [Exit.inBlock, Exit.then]); refine bodyPost_ret (results_none rfl _ _ _) rfl ?_)
      exact ⟨rfl, _, _, HS.out.best HD.out hbC hoC g⟩
    · have q : decide ((g : Int) < s.2) = false := decide_eq_false hF
      have hp : tryS ws strip 0 L g s = s := by rw [tryS, pickS, if_neg hF]
      rw [hp]
      clear hF hp
      go_enter Try.func26, Try.ntmps26
      go_wp2
      first | go_end0 | ((try simp only [Exit.inBlock, Exit.then]); refine bodyPost_ret (results_none rfl _ _ _) rfl ?_)
      exact ⟨rfl, _, _, HS.out⟩
  | succ d ih =>
    intro L g s vL vB w hd hg S
    obtain ⟨AL0, cL0, rfl, hcL0, hCL0⟩ := Kd.R_reads S.oL
    have hld : L.length ≠ ws.length := by omega
    have c1 : w.cell? ⟨x.bl, 0, none⟩ = some (.slice AL0 L.length cL0) := (blkC S.xl 0).trans rfl
    have c2 : w.cell? ⟨x.bn, 0, none⟩ = some (.int .i64 ws.length) := (blkC S.xn 0).trans rfl
    have e1 : ((L.length : Int) == (ws.length : Int)) = false := by simp; omega
    have e2 : (L.length == ws.length) = false := by simpa using hld
    have e3 : decide (L.length = ws.length) = false := by simpa using hld
    have HS0 := Aside0.mk S
    have HD := Aside0.mk D
    have IH := Aside0.mk ih
    have HW := Aside0.mk hw
    have HR0 := Aside0.mk hr0
    have HLD : Aside0 (L.length + (d + 1) = ws.length) := ⟨hd⟩
    have HH : Aside0 (ws.length ≤ 8 ∧ g ≤ L.length) := ⟨h8, hg⟩
    obtain ⟨R, hR⟩ : ∃ R, tryS ws strip (d + 1) L g s = R := ⟨_, rfl⟩
    rw [hR]
    rw [try_succ] at hR
    have HRE := Aside0.mk hR
    clear S D ih hw hr0 hd hld hR hCL0 hcL0 h8 hg
    go_enter Try.func26, Try.ntmps26
    go_wp2
    go_loopw [8] (fun v8 wr => ∃ (o : Nat) (s : List Int × Int) (vL vB : Value), v8 = .int .i64 o ∧ Aside0 (o ≤ g + 1) ∧ Aside0 (forS (stepS ws strip d L g) (g + 1 - o) o s = R) ∧ Aside0 (ST ws strip A0 c0 x wB L s.1 s.2 vL vB wr)) (fun v8 _ => (g + 1 - intOf v8).toNat)
    case atStart => exact ⟨0, s, _, _, rfl, ⟨by omega⟩, ⟨HRE.out⟩, HS0⟩
    case round =>
      clear HS0 HRE c1 c2 e1 e2 e3
      obtain ⟨o, s, vL, vB, rfl, HO, HE, HS⟩ := hrel
      have ho := HO.out
      by_cases hlt : o < g + 1
      · have hle : decide ((o : Int) ≤ (g : Int)) = true := decide_eq_true (by omega)
        have hle2 : decide (o ≤ g) = true := decide_eq_true (by omega)
        have he := HE.out
        rw [show g + 1 - o = (g - o) + 1 by omega, forS] at he
        obtain ⟨AL, cL, rfl, hcL, hCL⟩ := Kd.R_reads HS.out.oL
        have c1 : wr.cell? ⟨x.bl, 0, none⟩ = some (.slice AL L.length cL) := (blkC HS.out.xl 0).trans rfl
        have hh := HH.out
        have hld := HLD.out
        clear hCL hcL HE
        go_upto_region 7 with (first | ((with_reducible refine gate_builtin (b := .append) (xs := #[.tmp 24, .tmp 26]) rfl ?_); at_builtin; refine Kd.R_append (Kd.int .i64) (w0 := wB) wB.heap.size rfl (.tmp 24) (.tmp 26) 22 2 (.int .i64 0) 8 rfl Try.underlying22 info2 rfl (by decide) (by omega) (.slice AL L.length cL) L (o : Int) [.int .i64 (o : Int)] x.ok (fun _ => False) rfl rfl ?aP (fun _ hk => hk.elim) ?aF ?aO ?aB ?aS ?aL ?_; (case aP => exact rfl); (case aB => exact HS.out.base); (case aF => exact HS.out.lt); (case aO => exact HS.out.oL); (case aS => exact HS.out.base.size); (case aL => omega); intro v1 w1 ho1 hb1 hg1 hat1; obtain ⟨LL, hLL⟩ : ∃ LL, L ++ [(o : Int)] = LL := ⟨_, rfl⟩; rw [hLL] at ho1; obtain ⟨A1, c2, rfl⟩ := Kd.R_slice ho1; have hc4 : w1.cell? ⟨x.bl, 0, none⟩ = some (.slice AL L.length cL) := (blkC (HS.out.grownB hg1 HS.out.xl (by simp [BX.ok])) 0).trans rfl; have hf4 := blkF (HS.out.grownB hg1 HS.out.xl (by simp [BX.ok])) 0))
        have S2 := HS.out.app HD.out hb1 hg1 ho1 hat1
        obtain ⟨W2, hW2⟩ : ∃ W2, w1.setCell ⟨x.bl, 0, none⟩ (.slice A1 LL.length c2) = W2 := ⟨_, rfl⟩
        rw [hW2] at S2 ⊢
        have hLn : LL.length = L.length + 1 := by rw [← hLL]; simp
        have hLt : LL.take L.length = L := by rw [← hLL]; simp
        have HS2 := Aside0.mk S2
        have cr : W2.cell? ⟨x.br, 0, none⟩ = some (.func (.func 17) #[] #[.pointer (some ⟨x.gl, 0, none⟩), .pointer (some ⟨x.gs, 0, none⟩)]) := (blkC S2.xr 0).trans rfl
        have cl : W2.cell? ⟨x.bl, 0, none⟩ = some (.slice A1 LL.length c2) := (blkC S2.xl 0).trans rfl
        have HR := Aside0.mk (rightC ws HW.out hh.1 strip A0 c0 x.gl x.gs wB HR0.out LL (o : Int) (by omega) A1 c2 W2 S2.base ((blkC S2.xgl 0).trans rfl) ((blkC S2.xgs 0).trans rfl) (Kd.R_reads' S2.oL).2.2)
        obtain ⟨n1, hn1⟩ : ∃ n1, LL.length = n1 := ⟨_, rfl⟩
        have hgo : ((max g (o + 1) : Nat) : Int) = max (g : Int) ((o : Int) + 1) := by omega
        have x1 : IntKind.i64.wrap ((o : Int) + 1) = (o : Int) + 1 := IntWalk.i64_in _ (by omega)
        have x2 : IntKind.i64.wrap ((n1 : Int) - 1) = (L.length : Int) := by rw [IntWalk.i64_in _ (by omega)]; omega
        have HN : Aside0 (n1 = L.length + 1) := ⟨by omega⟩
        clear hW2 ho1 hb1 hg1 hat1 hc4 hf4 c1 S2
        by_cases hs : sumG ws LL o ≤ strip
        · rw [decide_eq_true hs] at HR
          have hst : stepS ws strip d L g o s = tryS ws strip d LL (max g (o + 1) : Nat) s := by rw [stepS, hLL, if_pos hs, hgo]
          rw [hst] at he
          have HT := Aside0.mk (fun w3 => IH.out LL (max g (o + 1)) s (.slice A1 LL.length c2) vB w3 (by omega) (by omega))
          obtain ⟨T, hT⟩ : ∃ T, tryS ws strip d LL (max g (o + 1) : Nat) s = T := ⟨_, rfl⟩
          rw [hT] at he HT
          rw [hn1] at HR HT HS2 cl ⊢
          have hm : (if (g : Int) < (o : Int) + 1 then (o : Int) + 1 else (g : Int)) = ((max g (o + 1) : Nat) : Int) := by split <;> omega
          have HE2 : Aside0 (forS (stepS ws strip d L g) (g + 1 - (o + 1)) ((o + 1 : Nat) : Int) T = R) := ⟨by rw [show g + 1 - (o + 1) = g - o by omega, Int.natCast_add, Int.natCast_one]; exact he⟩
          obtain ⟨gm, hgm⟩ : ∃ gm, max g (o + 1) = gm := ⟨_, rfl⟩
          rw [hgm] at hm HT
          clear he hs hst hT IH hgo hgm HO HS
          go_wp2_with (first | (go_at_call 17; refine HR.out.mono ?_; rintro e w3 ⟨rfl, hb3⟩; have S3 := HS2.out.below hb3; have ct : w3.cell? ⟨x.bt, 0, none⟩ = some (.func (.func 26) #[] #[.pointer (some ⟨x.bl, 0, none⟩), .pointer (some ⟨x.bn, 0, none⟩), .pointer (some ⟨x.bf, 0, none⟩), .pointer (some ⟨x.bb, 0, none⟩), .pointer (some ⟨x.br, 0, none⟩), .pointer (some ⟨x.bt, 0, none⟩)]) := (blkC S3.xt 0).trans rfl) | (go_at_call 26; refine (HT.out w3 S3).mono ?_; rintro e w4 ⟨rfl, vL4, vB4, S4⟩; obtain ⟨A4, c4, rfl, hc4, hC4⟩ := Kd.R_reads S4.oL; rw [hn1] at S4; have cl4 : w4.cell? ⟨x.bl, 0, none⟩ = some (.slice A4 n1 c4) := (blkC S4.xl 0).trans rfl; have cf4 := blkF S4.xl 0; have hsl := cutI (A := A4) (c := c4) (m := L.length) (n := n1) LL hn1 HN.out hc4))
          have S5 := S4.cut (m := L.length) HD.out (by omega)
          rw [hLt] at S5
          refine ⟨?_, by first | (simp [intOf]; done) | (simp [intOf, x1]; omega)⟩
          exact ⟨o + 1, T, _, _, by first | rfl | go_num, ⟨by omega⟩, HE2, ⟨S5⟩⟩
        · rw [decide_eq_false hs] at HR
          have hst : stepS ws strip d L g o s = s := by rw [stepS, hLL, if_neg hs]
          rw [hst] at he
          rw [hn1] at HR HS2 cl ⊢
          have HE2 : Aside0 (forS (stepS ws strip d L g) (g + 1 - (o + 1)) ((o + 1 : Nat) : Int) s = R) := ⟨by rw [show g + 1 - (o + 1) = g - o by omega, Int.natCast_add, Int.natCast_one]; exact he⟩
          have hcc := (Kd.R_reads' HS2.out.oL).2.1
          have hsl := cutI (A := A1) (c := c2) (m := L.length) (n := n1) LL hn1 HN.out (by omega)
          clear he hs hst IH hgo HO HS
          go_wp2_with (first | (go_at_call 17; refine HR.out.mono ?_; rintro e w3 ⟨rfl, hb3⟩; have S3 := HS2.out.below hb3; have cl4 : w3.cell? ⟨x.bl, 0, none⟩ = some (.slice A1 n1 c2) := (blkC S3.xl 0).trans rfl; have cf4 := blkF S3.xl 0))
          have S5 := S3.cut (m := L.length) HD.out (by omega)
          rw [hLt] at S5
          refine ⟨?_, by first | (simp [intOf]; done) | (simp [intOf, x1]; omega)⟩
          exact ⟨o + 1, s, _, _, by first | rfl | go_num, ⟨by omega⟩, HE2, ⟨S5⟩⟩
      · have hle : decide ((o : Int) ≤ (g : Int)) = false := decide_eq_false (by omega)
        have hle2 : decide (o ≤ g) = false := decide_eq_false (by omega)
        have he := HE.out
        rw [show g + 1 - o = 0 by omega] at he
        obtain rfl : s = R := he
        clear HE
        go_wp2
        first | go_end0 | ((try simp only [Exit.inBlock, Exit.then]); refine bodyPost_ret (results_none rfl _ _ _) rfl ?_)
        exact ⟨rfl, _, _, HS.out⟩

section
variable {P : Program} {ops : Array Oper} {o : Oper} {a : Act} {W : World} {Q : Exit → Act → World → Prop}
/-- A block laid anew, in a region that draws its order. -/
theorem newStep {K : Act → World → Prop} {N : Tmp} {t : TypeId} {cs : Array Value} {v : Nat → Value} (hw : Region.wanted o (yielded ops a.tmps) = true) (hN : o.dst = some N) (hrun : (execOp a.eval o).run P W = .ok (.value (v W.heap.size)) (W.alloc (.cells cs t)))
    (h : ∀ g w1, W.heap.size ≤ g → g < w1.heap.size → w1.heap[g]? = some (.cells cs t (0, 0)) → Below W.heap.size W w1 → K (a.put (some N) (v g)) w1) :
    if Region.wanted o (yielded ops a.tmps) = true then Oper.wp P o a W K Q else K (a.put o.dst undef) W := by
  rw [if_pos hw]
  have := h W.heap.size (W.alloc (.cells cs t)) (Nat.le_refl _) (by simp) (blkN rfl) (belA (Below.refl _ _))
  unfold Oper.wp
  rw [hrun]
  show K (a.put o.dst _) _
  rw [hN]
  exact this
/-- One cell written, in a region that draws its order. -/
theorem storeStep1 {K : Act → World → Prop} {g : Nat} {t : TypeId} {u v : Value} (hw : Region.wanted o (yielded ops a.tmps) = true) (hN : o.dst = none) (hrun : (execOp a.eval o).run P W = .ok .skip (W.setCell ⟨g, 0, none⟩ v))
    (hg : W.heap[g]? = some (.cells #[u] t (0, 0)))
    (h : ∀ w1, w1.heap[g]? = some (.cells #[v] t (0, 0)) → (∀ k, k ≠ g → w1.heap[k]? = W.heap[k]?) → Below g W w1 → w1.heap.size = W.heap.size → K a w1) :
    if Region.wanted o (yielded ops a.tmps) = true then Oper.wp P o a W K Q else K (a.put o.dst undef) W := by
  rw [if_pos hw]
  unfold Oper.wp
  rw [hrun]
  show K (a.put o.dst undef) _
  rw [hN]
  have hh : ∀ k, k ≠ g → (W.setCell ⟨g, 0, none⟩ v).heap[k]? = W.heap[k]? := fun k hk => Below.heap_setCell W ⟨g, 0, none⟩ v k hk
  refine h _ ?_ hh ⟨rfl, rfl, rfl, by simp, fun k hk => hh k (by omega)⟩ (by simp)
  exact (blkS hg).trans rfl
end
theorem zeroS (w : World) : (zeroValue 22).run Try.prog w = .ok (.slice none 0 0) w := by kernel_rfl
theorem zeroI (w : World) : (zeroValue 2).run Try.prog w = .ok (.int .i64 0) w := by kernel_rfl
/-- An empty row. -/
theorem emptyR {w : World} {base b : Nat} {ok : Nat → Prop} (h : w.heap[b]? = some (.cells #[] 2 (0, 0))) (hb : base ≤ b) (hok : ok b) : Kd.R (Kd.int .i64) 2 w base ok (.slice (some ⟨b, 0, none⟩) 0 0) [] := by
  refine ⟨fun k hk => ?_, [], ⟨rfl, .inr ⟨b, 0, #[], rfl, hb, h, Nat.le_refl _, by decide, by simp, by simp⟩⟩, Reps.none _ _⟩
  have : b = k := by simpa [Value.ownBlock] using hk
  subst this
  exact hok
set_option maxHeartbeats 8000000 in
set_option maxRecDepth 100000 in
theorem sharedC (ws : List Int) (hw : ∀ x ∈ ws, 0 ≤ x ∧ x ≤ 5000) (h8 : ws.length ≤ 8) (strip : Int) (A0 : Option Addr) (c0 gl gs : Nat) (wB : World) (hr0 : Kd.C (Kd.int .i64) wB A0 ws.length ws) (w : World) (hB : Below wB.heap.size wB w)
    (hgl : w.heap[gl]? = some (.cells #[.slice A0 ws.length c0] 22 (0, 0))) (hgs : w.heap[gs]? = some (.cells #[.int .i64 strip] 2 (0, 0))) :
    Calls Try.prog 16 #[.int .i64 ws.length, .func (.func 17) #[] #[.pointer (some ⟨gl, 0, none⟩), .pointer (some ⟨gs, 0, none⟩)]] w fun e w' => ∃ v, e = .returned (.tuple #[v, .int .i64 (bestS ws strip).2]) ∧ Kd.R (Kd.int .i64) 2 w' wB.heap.size (fun _ => True) v (bestS ws strip).1 ∧ Below wB.heap.size wB w' := by
  have HW := Aside0.mk hw
  have HR0 := Aside0.mk hr0
  have HB := Aside0.mk hB
  have HGL := Aside0.mk hgl
  have HGS := Aside0.mk hgs
  have H8 := Aside0.mk h8
  have hz1 := zeroS
  have hz2 := zeroI
  have x1 : IntKind.i64.wrap ((ws.length : Int) + 1) = (ws.length : Int) + 1 := IntWalk.i64_in _ (by omega)
  clear hw hr0 hB hgl hgs h8
  go_enter Try.func16, Try.ntmps16
  go_upto_region 1 with fail
  go_cut [6, 7] (fun p6 p7 wr => ∃ bb bf b0, p6 = .pointer (some ⟨bb, 0, none⟩) ∧ p7 = .pointer (some ⟨bf, 0, none⟩) ∧ w.heap.size ≤ bb ∧ w.heap.size ≤ bf ∧ w.heap.size ≤ b0 ∧ Below w.heap.size w wr ∧ wr.heap[w.heap.size]? = some (.cells #[.int .i64 ws.length] 3 (0, 0)) ∧ wr.heap[w.heap.size + 1]? = some (.cells #[.func (.func 17) #[] #[.pointer (some ⟨gl, 0, none⟩), .pointer (some ⟨gs, 0, none⟩)]] 28 (0, 0)) ∧ wr.heap[bb]? = some (.cells #[.slice (some ⟨b0, 0, none⟩) 0 0] 22 (0, 0)) ∧ wr.heap[bf]? = some (.cells #[.int .i64 (ws.length + 1)] 2 (0, 0)) ∧ wr.heap[b0]? = some (.cells #[] 2 (0, 0)))
  case first =>
    refine wp_region_held_drew (S := fun w' => Below w.heap.size w w' ∧ w'.heap[w.heap.size]? = some (.cells #[.int .i64 ws.length] 3 (0, 0)) ∧ w'.heap[w.heap.size + 1]? = some (.cells #[.func (.func 17) #[] #[.pointer (some ⟨gl, 0, none⟩), .pointer (some ⟨gs, 0, none⟩)]] 28 (0, 0))) (by kernel_rfl) ⟨belD (belA (belA (Below.refl _ _))), blkD (blkA (blkN rfl)), blkD (blkN (by simp))⟩ (fun hS => ?_)
    refine takeAny 1 (dN := some 11) (v := ?v1_1_1) rfl rfl (by kernel_rfl) (by kernel_rfl) (by kernel_rfl) (fun _ _ _ h => h) (.inl ⟨rfl, fun w' hSw => ?h1_1_1⟩) hS ?_
    case h1_1_1 => (have e_ := (blkC hSw.2.1 0).trans rfl; go_simp; first | done | with_reducible rfl)
    simp only [Act.put, List.setIfInBounds_toArray, List.set_cons_zero, List.set_cons_succ]
    refine takeAny 2 (dN := some 12) (v := ?v1_2_2) rfl rfl (by kernel_rfl) (by kernel_rfl) (by kernel_rfl) (fun _ _ _ h => h) (.inl ⟨rfl, fun w' hSw => ?h1_2_2⟩) hS ?_
    case h1_2_2 => (go_simp; first | done | with_reducible rfl)
    simp only [Act.put, List.setIfInBounds_toArray, List.set_cons_zero, List.set_cons_succ]
    refine wpAnyH_ready (rs := [0, 3, 4]) (by kernel_rfl) (by simp) (AllReadyH.cons rfl (fun K hK => ?_) (AllReadyH.cons rfl (fun K hK => ?_) (AllReadyH.cons rfl (fun K hK => ?_) AllReadyH.nil)))
    · refine newStep rfl rfl (t := 2) (cs := #[]) (v := fun g => .slice (some ⟨g, 0, none⟩) 0 0) (by first | (go_simp; done) | (go_simp; rfl)) ?_
      intro g0 w1_0 hG0 hlt hN0 hb
      have hne0_1 := Nat.ne_of_lt (Nat.lt_of_lt_of_le (blkLt hS.2.1) hG0)
      have hne0_2 := Nat.ne_of_lt (Nat.lt_of_lt_of_le (blkLt hS.2.2) hG0)
      have hG0 := Nat.le_trans hS.1.size hG0
      simp only [Act.put, List.setIfInBounds_toArray, List.set_cons_zero, List.set_cons_succ]
      refine hK.out _ _ ⟨belW hS.1 hb, blkB hb hS.2.1 (blkLt hS.2.1), blkB hb hS.2.2 (blkLt hS.2.2)⟩ (fun hS => ?_)
      clear hb hK hlt
      refine wpAnyH_ready (rs := [3, 4]) (by kernel_rfl) (by simp) (AllReadyH.cons rfl (fun K hK => ?_) (AllReadyH.cons rfl (fun K hK => ?_) AllReadyH.nil))
      · refine newStep rfl rfl (t := 22) (cs := #[.slice none 0 0]) (v := fun g => .pointer (some ⟨g, 0, none⟩)) (by first | (go_simp; done) | (go_simp; rfl)) ?_
        intro g3 w1_3 hG3 hlt hN3 hb
        have hne3_1 := Nat.ne_of_lt (Nat.lt_of_lt_of_le (blkLt hS.2.1) hG3)
        have hne3_2 := Nat.ne_of_lt (Nat.lt_of_lt_of_le (blkLt hS.2.2) hG3)
        have hnx3_0 := Nat.ne_of_lt (Nat.lt_of_lt_of_le (blkLt hN0) hG3)
        have hN0 := blkB hb hN0 (blkLt hN0)
        have hG3 := Nat.le_trans hS.1.size hG3
        simp only [Act.put, List.setIfInBounds_toArray, List.set_cons_zero, List.set_cons_succ]
        refine hK.out _ _ ⟨belW hS.1 hb, blkB hb hS.2.1 (blkLt hS.2.1), blkB hb hS.2.2 (blkLt hS.2.2)⟩ (fun hS => ?_)
        clear hb hK hlt
        refine wpAnyH_ready (rs := [4]) (by kernel_rfl) (by simp) (AllReadyH.cons rfl (fun K hK => ?_) AllReadyH.nil)
        refine newStep rfl rfl (t := 2) (cs := #[.int .i64 0]) (v := fun g => .pointer (some ⟨g, 0, none⟩)) (by first | (go_simp; done) | (go_simp; rfl)) ?_
        intro g4 w1_4 hG4 hlt hN4 hb
        have hne4_1 := Nat.ne_of_lt (Nat.lt_of_lt_of_le (blkLt hS.2.1) hG4)
        have hne4_2 := Nat.ne_of_lt (Nat.lt_of_lt_of_le (blkLt hS.2.2) hG4)
        have hnx4_0 := Nat.ne_of_lt (Nat.lt_of_lt_of_le (blkLt hN0) hG4)
        have hN0 := blkB hb hN0 (blkLt hN0)
        have hnx4_3 := Nat.ne_of_lt (Nat.lt_of_lt_of_le (blkLt hN3) hG4)
        have hN3 := blkB hb hN3 (blkLt hN3)
        have hG4 := Nat.le_trans hS.1.size hG4
        simp only [Act.put, List.setIfInBounds_toArray, List.set_cons_zero, List.set_cons_succ]
        refine hK.out _ _ ⟨belW hS.1 hb, blkB hb hS.2.1 (blkLt hS.2.1), blkB hb hS.2.2 (blkLt hS.2.2)⟩ (fun hS => ?_)
        clear hb hK hlt
        refine wpAnyH_ready (rs := [5]) (by kernel_rfl) (by simp) (AllReadyH.cons rfl (fun K hK => ?_) AllReadyH.nil)
        refine storeStep1 rfl rfl (by have c_ := (blkC hN3 0).trans rfl; have f_ := blkF hN3 0; first | (go_simp; done) | (go_simp; rfl)) hN3 ?_
        intro w1_5 j1 j2 j3 j4
        have hN0 := (j2 _ (by first | exact hnx3_0 | exact Ne.symm hnx0_3)).trans hN0
        have hN4 := (j2 _ (by first | exact hnx3_4 | exact Ne.symm hnx4_3)).trans hN4
        refine hK.out _ _ ⟨belT hS.1 j3 hG3, (j2 _ hne3_1).trans hS.2.1, (j2 _ hne3_2).trans hS.2.2⟩ (fun hS => ?_)
        have hN3 := j1
        clear j1 j2 j3 j4 hK
        refine wpAnyH_ready (rs := [6]) (by kernel_rfl) (by simp) (AllReadyH.cons rfl (fun K hK => ?_) AllReadyH.nil)
        refine storeStep1 rfl rfl (by have c_ := (blkC hN4 0).trans rfl; have f_ := blkF hN4 0; first | (go_simp; done) | (go_simp; rfl)) hN4 ?_
        intro w1_6 j1 j2 j3 j4
        have hN0 := (j2 _ (by first | exact hnx4_0 | exact Ne.symm hnx0_4)).trans hN0
        have hN3 := (j2 _ (by first | exact hnx4_3 | exact Ne.symm hnx3_4)).trans hN3
        refine hK.out _ _ ⟨belT hS.1 j3 hG4, (j2 _ hne4_1).trans hS.2.1, (j2 _ hne4_2).trans hS.2.2⟩ (fun hS => ?_)
        have hN4 := j1
        clear j1 j2 j3 j4 hK
        refine wpAnyH_done (by kernel_rfl) ?_ _
        (go_wp2_with fail; go_meet; exact ⟨g3, g4, g0, rfl, rfl, hG3, hG4, hG0, hS.1, hS.2.1, hS.2.2, hN3, hN4, hN0⟩)
      · refine newStep rfl rfl (t := 2) (cs := #[.int .i64 0]) (v := fun g => .pointer (some ⟨g, 0, none⟩)) (by first | (go_simp; done) | (go_simp; rfl)) ?_
        intro g4 w1_4 hG4 hlt hN4 hb
        have hne4_1 := Nat.ne_of_lt (Nat.lt_of_lt_of_le (blkLt hS.2.1) hG4)
        have hne4_2 := Nat.ne_of_lt (Nat.lt_of_lt_of_le (blkLt hS.2.2) hG4)
        have hnx4_0 := Nat.ne_of_lt (Nat.lt_of_lt_of_le (blkLt hN0) hG4)
        have hN0 := blkB hb hN0 (blkLt hN0)
        have hG4 := Nat.le_trans hS.1.size hG4
        simp only [Act.put, List.setIfInBounds_toArray, List.set_cons_zero, List.set_cons_succ]
        refine hK.out _ _ ⟨belW hS.1 hb, blkB hb hS.2.1 (blkLt hS.2.1), blkB hb hS.2.2 (blkLt hS.2.2)⟩ (fun hS => ?_)
        clear hb hK hlt
        refine wpAnyH_ready (rs := [3]) (by kernel_rfl) (by simp) (AllReadyH.cons rfl (fun K hK => ?_) AllReadyH.nil)
        refine newStep rfl rfl (t := 22) (cs := #[.slice none 0 0]) (v := fun g => .pointer (some ⟨g, 0, none⟩)) (by first | (go_simp; done) | (go_simp; rfl)) ?_
        intro g3 w1_3 hG3 hlt hN3 hb
        have hne3_1 := Nat.ne_of_lt (Nat.lt_of_lt_of_le (blkLt hS.2.1) hG3)
        have hne3_2 := Nat.ne_of_lt (Nat.lt_of_lt_of_le (blkLt hS.2.2) hG3)
        have hnx3_0 := Nat.ne_of_lt (Nat.lt_of_lt_of_le (blkLt hN0) hG3)
        have hN0 := blkB hb hN0 (blkLt hN0)
        have hnx3_4 := Nat.ne_of_lt (Nat.lt_of_lt_of_le (blkLt hN4) hG3)
        have hN4 := blkB hb hN4 (blkLt hN4)
        have hG3 := Nat.le_trans hS.1.size hG3
        simp only [Act.put, List.setIfInBounds_toArray, List.set_cons_zero, List.set_cons_succ]
        refine hK.out _ _ ⟨belW hS.1 hb, blkB hb hS.2.1 (blkLt hS.2.1), blkB hb hS.2.2 (blkLt hS.2.2)⟩ (fun hS => ?_)
        clear hb hK hlt
        refine wpAnyH_ready (rs := [5]) (by kernel_rfl) (by simp) (AllReadyH.cons rfl (fun K hK => ?_) AllReadyH.nil)
        refine storeStep1 rfl rfl (by have c_ := (blkC hN3 0).trans rfl; have f_ := blkF hN3 0; first | (go_simp; done) | (go_simp; rfl)) hN3 ?_
        intro w1_5 j1 j2 j3 j4
        have hN0 := (j2 _ (by first | exact hnx3_0 | exact Ne.symm hnx0_3)).trans hN0
        have hN4 := (j2 _ (by first | exact hnx3_4 | exact Ne.symm hnx4_3)).trans hN4
        refine hK.out _ _ ⟨belT hS.1 j3 hG3, (j2 _ hne3_1).trans hS.2.1, (j2 _ hne3_2).trans hS.2.2⟩ (fun hS => ?_)
        have hN3 := j1
        clear j1 j2 j3 j4 hK
        refine wpAnyH_ready (rs := [6]) (by kernel_rfl) (by simp) (AllReadyH.cons rfl (fun K hK => ?_) AllReadyH.nil)
        refine storeStep1 rfl rfl (by have c_ := (blkC hN4 0).trans rfl; have f_ := blkF hN4 0; first | (go_simp; done) | (go_simp; rfl)) hN4 ?_
        intro w1_6 j1 j2 j3 j4
        have hN0 := (j2 _ (by first | exact hnx4_0 | exact Ne.symm hnx0_4)).trans hN0
        have hN3 := (j2 _ (by first | exact hnx4_3 | exact Ne.symm hnx3_4)).trans hN3
        refine hK.out _ _ ⟨belT hS.1 j3 hG4, (j2 _ hne4_1).trans hS.2.1, (j2 _ hne4_2).trans hS.2.2⟩ (fun hS => ?_)
        have hN4 := j1
        clear j1 j2 j3 j4 hK
        refine wpAnyH_done (by kernel_rfl) ?_ _
        (go_wp2_with fail; go_meet; exact ⟨g3, g4, g0, rfl, rfl, hG3, hG4, hG0, hS.1, hS.2.1, hS.2.2, hN3, hN4, hN0⟩)
    · refine newStep rfl rfl (t := 22) (cs := #[.slice none 0 0]) (v := fun g => .pointer (some ⟨g, 0, none⟩)) (by first | (go_simp; done) | (go_simp; rfl)) ?_
      intro g3 w1_3 hG3 hlt hN3 hb
      have hne3_1 := Nat.ne_of_lt (Nat.lt_of_lt_of_le (blkLt hS.2.1) hG3)
      have hne3_2 := Nat.ne_of_lt (Nat.lt_of_lt_of_le (blkLt hS.2.2) hG3)
      have hG3 := Nat.le_trans hS.1.size hG3
      simp only [Act.put, List.setIfInBounds_toArray, List.set_cons_zero, List.set_cons_succ]
      refine hK.out _ _ ⟨belW hS.1 hb, blkB hb hS.2.1 (blkLt hS.2.1), blkB hb hS.2.2 (blkLt hS.2.2)⟩ (fun hS => ?_)
      clear hb hK hlt
      refine wpAnyH_ready (rs := [0, 4]) (by kernel_rfl) (by simp) (AllReadyH.cons rfl (fun K hK => ?_) (AllReadyH.cons rfl (fun K hK => ?_) AllReadyH.nil))
      · refine newStep rfl rfl (t := 2) (cs := #[]) (v := fun g => .slice (some ⟨g, 0, none⟩) 0 0) (by first | (go_simp; done) | (go_simp; rfl)) ?_
        intro g0 w1_0 hG0 hlt hN0 hb
        have hne0_1 := Nat.ne_of_lt (Nat.lt_of_lt_of_le (blkLt hS.2.1) hG0)
        have hne0_2 := Nat.ne_of_lt (Nat.lt_of_lt_of_le (blkLt hS.2.2) hG0)
        have hnx0_3 := Nat.ne_of_lt (Nat.lt_of_lt_of_le (blkLt hN3) hG0)
        have hN3 := blkB hb hN3 (blkLt hN3)
        have hG0 := Nat.le_trans hS.1.size hG0
        simp only [Act.put, List.setIfInBounds_toArray, List.set_cons_zero, List.set_cons_succ]
        refine hK.out _ _ ⟨belW hS.1 hb, blkB hb hS.2.1 (blkLt hS.2.1), blkB hb hS.2.2 (blkLt hS.2.2)⟩ (fun hS => ?_)
        clear hb hK hlt
        refine wpAnyH_ready (rs := [4]) (by kernel_rfl) (by simp) (AllReadyH.cons rfl (fun K hK => ?_) AllReadyH.nil)
        refine newStep rfl rfl (t := 2) (cs := #[.int .i64 0]) (v := fun g => .pointer (some ⟨g, 0, none⟩)) (by first | (go_simp; done) | (go_simp; rfl)) ?_
        intro g4 w1_4 hG4 hlt hN4 hb
        have hne4_1 := Nat.ne_of_lt (Nat.lt_of_lt_of_le (blkLt hS.2.1) hG4)
        have hne4_2 := Nat.ne_of_lt (Nat.lt_of_lt_of_le (blkLt hS.2.2) hG4)
        have hnx4_3 := Nat.ne_of_lt (Nat.lt_of_lt_of_le (blkLt hN3) hG4)
        have hN3 := blkB hb hN3 (blkLt hN3)
        have hnx4_0 := Nat.ne_of_lt (Nat.lt_of_lt_of_le (blkLt hN0) hG4)
        have hN0 := blkB hb hN0 (blkLt hN0)
        have hG4 := Nat.le_trans hS.1.size hG4
        simp only [Act.put, List.setIfInBounds_toArray, List.set_cons_zero, List.set_cons_succ]
        refine hK.out _ _ ⟨belW hS.1 hb, blkB hb hS.2.1 (blkLt hS.2.1), blkB hb hS.2.2 (blkLt hS.2.2)⟩ (fun hS => ?_)
        clear hb hK hlt
        refine wpAnyH_ready (rs := [5]) (by kernel_rfl) (by simp) (AllReadyH.cons rfl (fun K hK => ?_) AllReadyH.nil)
        refine storeStep1 rfl rfl (by have c_ := (blkC hN3 0).trans rfl; have f_ := blkF hN3 0; first | (go_simp; done) | (go_simp; rfl)) hN3 ?_
        intro w1_5 j1 j2 j3 j4
        have hN0 := (j2 _ (by first | exact hnx3_0 | exact Ne.symm hnx0_3)).trans hN0
        have hN4 := (j2 _ (by first | exact hnx3_4 | exact Ne.symm hnx4_3)).trans hN4
        refine hK.out _ _ ⟨belT hS.1 j3 hG3, (j2 _ hne3_1).trans hS.2.1, (j2 _ hne3_2).trans hS.2.2⟩ (fun hS => ?_)
        have hN3 := j1
        clear j1 j2 j3 j4 hK
        refine wpAnyH_ready (rs := [6]) (by kernel_rfl) (by simp) (AllReadyH.cons rfl (fun K hK => ?_) AllReadyH.nil)
        refine storeStep1 rfl rfl (by have c_ := (blkC hN4 0).trans rfl; have f_ := blkF hN4 0; first | (go_simp; done) | (go_simp; rfl)) hN4 ?_
        intro w1_6 j1 j2 j3 j4
        have hN3 := (j2 _ (by first | exact hnx4_3 | exact Ne.symm hnx3_4)).trans hN3
        have hN0 := (j2 _ (by first | exact hnx4_0 | exact Ne.symm hnx0_4)).trans hN0
        refine hK.out _ _ ⟨belT hS.1 j3 hG4, (j2 _ hne4_1).trans hS.2.1, (j2 _ hne4_2).trans hS.2.2⟩ (fun hS => ?_)
        have hN4 := j1
        clear j1 j2 j3 j4 hK
        refine wpAnyH_done (by kernel_rfl) ?_ _
        (go_wp2_with fail; go_meet; exact ⟨g3, g4, g0, rfl, rfl, hG3, hG4, hG0, hS.1, hS.2.1, hS.2.2, hN3, hN4, hN0⟩)
      · refine newStep rfl rfl (t := 2) (cs := #[.int .i64 0]) (v := fun g => .pointer (some ⟨g, 0, none⟩)) (by first | (go_simp; done) | (go_simp; rfl)) ?_
        intro g4 w1_4 hG4 hlt hN4 hb
        have hne4_1 := Nat.ne_of_lt (Nat.lt_of_lt_of_le (blkLt hS.2.1) hG4)
        have hne4_2 := Nat.ne_of_lt (Nat.lt_of_lt_of_le (blkLt hS.2.2) hG4)
        have hnx4_3 := Nat.ne_of_lt (Nat.lt_of_lt_of_le (blkLt hN3) hG4)
        have hN3 := blkB hb hN3 (blkLt hN3)
        have hG4 := Nat.le_trans hS.1.size hG4
        simp only [Act.put, List.setIfInBounds_toArray, List.set_cons_zero, List.set_cons_succ]
        refine hK.out _ _ ⟨belW hS.1 hb, blkB hb hS.2.1 (blkLt hS.2.1), blkB hb hS.2.2 (blkLt hS.2.2)⟩ (fun hS => ?_)
        clear hb hK hlt
        refine wpAnyH_ready (rs := [0]) (by kernel_rfl) (by simp) (AllReadyH.cons rfl (fun K hK => ?_) AllReadyH.nil)
        refine newStep rfl rfl (t := 2) (cs := #[]) (v := fun g => .slice (some ⟨g, 0, none⟩) 0 0) (by first | (go_simp; done) | (go_simp; rfl)) ?_
        intro g0 w1_0 hG0 hlt hN0 hb
        have hne0_1 := Nat.ne_of_lt (Nat.lt_of_lt_of_le (blkLt hS.2.1) hG0)
        have hne0_2 := Nat.ne_of_lt (Nat.lt_of_lt_of_le (blkLt hS.2.2) hG0)
        have hnx0_3 := Nat.ne_of_lt (Nat.lt_of_lt_of_le (blkLt hN3) hG0)
        have hN3 := blkB hb hN3 (blkLt hN3)
        have hnx0_4 := Nat.ne_of_lt (Nat.lt_of_lt_of_le (blkLt hN4) hG0)
        have hN4 := blkB hb hN4 (blkLt hN4)
        have hG0 := Nat.le_trans hS.1.size hG0
        simp only [Act.put, List.setIfInBounds_toArray, List.set_cons_zero, List.set_cons_succ]
        refine hK.out _ _ ⟨belW hS.1 hb, blkB hb hS.2.1 (blkLt hS.2.1), blkB hb hS.2.2 (blkLt hS.2.2)⟩ (fun hS => ?_)
        clear hb hK hlt
        refine wpAnyH_ready (rs := [5]) (by kernel_rfl) (by simp) (AllReadyH.cons rfl (fun K hK => ?_) AllReadyH.nil)
        refine storeStep1 rfl rfl (by have c_ := (blkC hN3 0).trans rfl; have f_ := blkF hN3 0; first | (go_simp; done) | (go_simp; rfl)) hN3 ?_
        intro w1_5 j1 j2 j3 j4
        have hN4 := (j2 _ (by first | exact hnx3_4 | exact Ne.symm hnx4_3)).trans hN4
        have hN0 := (j2 _ (by first | exact hnx3_0 | exact Ne.symm hnx0_3)).trans hN0
        refine hK.out _ _ ⟨belT hS.1 j3 hG3, (j2 _ hne3_1).trans hS.2.1, (j2 _ hne3_2).trans hS.2.2⟩ (fun hS => ?_)
        have hN3 := j1
        clear j1 j2 j3 j4 hK
        refine wpAnyH_ready (rs := [6]) (by kernel_rfl) (by simp) (AllReadyH.cons rfl (fun K hK => ?_) AllReadyH.nil)
        refine storeStep1 rfl rfl (by have c_ := (blkC hN4 0).trans rfl; have f_ := blkF hN4 0; first | (go_simp; done) | (go_simp; rfl)) hN4 ?_
        intro w1_6 j1 j2 j3 j4
        have hN3 := (j2 _ (by first | exact hnx4_3 | exact Ne.symm hnx3_4)).trans hN3
        have hN0 := (j2 _ (by first | exact hnx4_0 | exact Ne.symm hnx0_4)).trans hN0
        refine hK.out _ _ ⟨belT hS.1 j3 hG4, (j2 _ hne4_1).trans hS.2.1, (j2 _ hne4_2).trans hS.2.2⟩ (fun hS => ?_)
        have hN4 := j1
        clear j1 j2 j3 j4 hK
        refine wpAnyH_done (by kernel_rfl) ?_ _
        (go_wp2_with fail; go_meet; exact ⟨g3, g4, g0, rfl, rfl, hG3, hG4, hG0, hS.1, hS.2.1, hS.2.2, hN3, hN4, hN0⟩)
    · refine newStep rfl rfl (t := 2) (cs := #[.int .i64 0]) (v := fun g => .pointer (some ⟨g, 0, none⟩)) (by first | (go_simp; done) | (go_simp; rfl)) ?_
      intro g4 w1_4 hG4 hlt hN4 hb
      have hne4_1 := Nat.ne_of_lt (Nat.lt_of_lt_of_le (blkLt hS.2.1) hG4)
      have hne4_2 := Nat.ne_of_lt (Nat.lt_of_lt_of_le (blkLt hS.2.2) hG4)
      have hG4 := Nat.le_trans hS.1.size hG4
      simp only [Act.put, List.setIfInBounds_toArray, List.set_cons_zero, List.set_cons_succ]
      refine hK.out _ _ ⟨belW hS.1 hb, blkB hb hS.2.1 (blkLt hS.2.1), blkB hb hS.2.2 (blkLt hS.2.2)⟩ (fun hS => ?_)
      clear hb hK hlt
      refine wpAnyH_ready (rs := [0, 3]) (by kernel_rfl) (by simp) (AllReadyH.cons rfl (fun K hK => ?_) (AllReadyH.cons rfl (fun K hK => ?_) AllReadyH.nil))
      · refine newStep rfl rfl (t := 2) (cs := #[]) (v := fun g => .slice (some ⟨g, 0, none⟩) 0 0) (by first | (go_simp; done) | (go_simp; rfl)) ?_
        intro g0 w1_0 hG0 hlt hN0 hb
        have hne0_1 := Nat.ne_of_lt (Nat.lt_of_lt_of_le (blkLt hS.2.1) hG0)
        have hne0_2 := Nat.ne_of_lt (Nat.lt_of_lt_of_le (blkLt hS.2.2) hG0)
        have hnx0_4 := Nat.ne_of_lt (Nat.lt_of_lt_of_le (blkLt hN4) hG0)
        have hN4 := blkB hb hN4 (blkLt hN4)
        have hG0 := Nat.le_trans hS.1.size hG0
        simp only [Act.put, List.setIfInBounds_toArray, List.set_cons_zero, List.set_cons_succ]
        refine hK.out _ _ ⟨belW hS.1 hb, blkB hb hS.2.1 (blkLt hS.2.1), blkB hb hS.2.2 (blkLt hS.2.2)⟩ (fun hS => ?_)
        clear hb hK hlt
        refine wpAnyH_ready (rs := [3]) (by kernel_rfl) (by simp) (AllReadyH.cons rfl (fun K hK => ?_) AllReadyH.nil)
        refine newStep rfl rfl (t := 22) (cs := #[.slice none 0 0]) (v := fun g => .pointer (some ⟨g, 0, none⟩)) (by first | (go_simp; done) | (go_simp; rfl)) ?_
        intro g3 w1_3 hG3 hlt hN3 hb
        have hne3_1 := Nat.ne_of_lt (Nat.lt_of_lt_of_le (blkLt hS.2.1) hG3)
        have hne3_2 := Nat.ne_of_lt (Nat.lt_of_lt_of_le (blkLt hS.2.2) hG3)
        have hnx3_4 := Nat.ne_of_lt (Nat.lt_of_lt_of_le (blkLt hN4) hG3)
        have hN4 := blkB hb hN4 (blkLt hN4)
        have hnx3_0 := Nat.ne_of_lt (Nat.lt_of_lt_of_le (blkLt hN0) hG3)
        have hN0 := blkB hb hN0 (blkLt hN0)
        have hG3 := Nat.le_trans hS.1.size hG3
        simp only [Act.put, List.setIfInBounds_toArray, List.set_cons_zero, List.set_cons_succ]
        refine hK.out _ _ ⟨belW hS.1 hb, blkB hb hS.2.1 (blkLt hS.2.1), blkB hb hS.2.2 (blkLt hS.2.2)⟩ (fun hS => ?_)
        clear hb hK hlt
        refine wpAnyH_ready (rs := [5]) (by kernel_rfl) (by simp) (AllReadyH.cons rfl (fun K hK => ?_) AllReadyH.nil)
        refine storeStep1 rfl rfl (by have c_ := (blkC hN3 0).trans rfl; have f_ := blkF hN3 0; first | (go_simp; done) | (go_simp; rfl)) hN3 ?_
        intro w1_5 j1 j2 j3 j4
        have hN4 := (j2 _ (by first | exact hnx3_4 | exact Ne.symm hnx4_3)).trans hN4
        have hN0 := (j2 _ (by first | exact hnx3_0 | exact Ne.symm hnx0_3)).trans hN0
        refine hK.out _ _ ⟨belT hS.1 j3 hG3, (j2 _ hne3_1).trans hS.2.1, (j2 _ hne3_2).trans hS.2.2⟩ (fun hS => ?_)
        have hN3 := j1
        clear j1 j2 j3 j4 hK
        refine wpAnyH_ready (rs := [6]) (by kernel_rfl) (by simp) (AllReadyH.cons rfl (fun K hK => ?_) AllReadyH.nil)
        refine storeStep1 rfl rfl (by have c_ := (blkC hN4 0).trans rfl; have f_ := blkF hN4 0; first | (go_simp; done) | (go_simp; rfl)) hN4 ?_
        intro w1_6 j1 j2 j3 j4
        have hN0 := (j2 _ (by first | exact hnx4_0 | exact Ne.symm hnx0_4)).trans hN0
        have hN3 := (j2 _ (by first | exact hnx4_3 | exact Ne.symm hnx3_4)).trans hN3
        refine hK.out _ _ ⟨belT hS.1 j3 hG4, (j2 _ hne4_1).trans hS.2.1, (j2 _ hne4_2).trans hS.2.2⟩ (fun hS => ?_)
        have hN4 := j1
        clear j1 j2 j3 j4 hK
        refine wpAnyH_done (by kernel_rfl) ?_ _
        (go_wp2_with fail; go_meet; exact ⟨g3, g4, g0, rfl, rfl, hG3, hG4, hG0, hS.1, hS.2.1, hS.2.2, hN3, hN4, hN0⟩)
      · refine newStep rfl rfl (t := 22) (cs := #[.slice none 0 0]) (v := fun g => .pointer (some ⟨g, 0, none⟩)) (by first | (go_simp; done) | (go_simp; rfl)) ?_
        intro g3 w1_3 hG3 hlt hN3 hb
        have hne3_1 := Nat.ne_of_lt (Nat.lt_of_lt_of_le (blkLt hS.2.1) hG3)
        have hne3_2 := Nat.ne_of_lt (Nat.lt_of_lt_of_le (blkLt hS.2.2) hG3)
        have hnx3_4 := Nat.ne_of_lt (Nat.lt_of_lt_of_le (blkLt hN4) hG3)
        have hN4 := blkB hb hN4 (blkLt hN4)
        have hG3 := Nat.le_trans hS.1.size hG3
        simp only [Act.put, List.setIfInBounds_toArray, List.set_cons_zero, List.set_cons_succ]
        refine hK.out _ _ ⟨belW hS.1 hb, blkB hb hS.2.1 (blkLt hS.2.1), blkB hb hS.2.2 (blkLt hS.2.2)⟩ (fun hS => ?_)
        clear hb hK hlt
        refine wpAnyH_ready (rs := [0]) (by kernel_rfl) (by simp) (AllReadyH.cons rfl (fun K hK => ?_) AllReadyH.nil)
        refine newStep rfl rfl (t := 2) (cs := #[]) (v := fun g => .slice (some ⟨g, 0, none⟩) 0 0) (by first | (go_simp; done) | (go_simp; rfl)) ?_
        intro g0 w1_0 hG0 hlt hN0 hb
        have hne0_1 := Nat.ne_of_lt (Nat.lt_of_lt_of_le (blkLt hS.2.1) hG0)
        have hne0_2 := Nat.ne_of_lt (Nat.lt_of_lt_of_le (blkLt hS.2.2) hG0)
        have hnx0_4 := Nat.ne_of_lt (Nat.lt_of_lt_of_le (blkLt hN4) hG0)
        have hN4 := blkB hb hN4 (blkLt hN4)
        have hnx0_3 := Nat.ne_of_lt (Nat.lt_of_lt_of_le (blkLt hN3) hG0)
        have hN3 := blkB hb hN3 (blkLt hN3)
        have hG0 := Nat.le_trans hS.1.size hG0
        simp only [Act.put, List.setIfInBounds_toArray, List.set_cons_zero, List.set_cons_succ]
        refine hK.out _ _ ⟨belW hS.1 hb, blkB hb hS.2.1 (blkLt hS.2.1), blkB hb hS.2.2 (blkLt hS.2.2)⟩ (fun hS => ?_)
        clear hb hK hlt
        refine wpAnyH_ready (rs := [5]) (by kernel_rfl) (by simp) (AllReadyH.cons rfl (fun K hK => ?_) AllReadyH.nil)
        refine storeStep1 rfl rfl (by have c_ := (blkC hN3 0).trans rfl; have f_ := blkF hN3 0; first | (go_simp; done) | (go_simp; rfl)) hN3 ?_
        intro w1_5 j1 j2 j3 j4
        have hN4 := (j2 _ (by first | exact hnx3_4 | exact Ne.symm hnx4_3)).trans hN4
        have hN0 := (j2 _ (by first | exact hnx3_0 | exact Ne.symm hnx0_3)).trans hN0
        refine hK.out _ _ ⟨belT hS.1 j3 hG3, (j2 _ hne3_1).trans hS.2.1, (j2 _ hne3_2).trans hS.2.2⟩ (fun hS => ?_)
        have hN3 := j1
        clear j1 j2 j3 j4 hK
        refine wpAnyH_ready (rs := [6]) (by kernel_rfl) (by simp) (AllReadyH.cons rfl (fun K hK => ?_) AllReadyH.nil)
        refine storeStep1 rfl rfl (by have c_ := (blkC hN4 0).trans rfl; have f_ := blkF hN4 0; first | (go_simp; done) | (go_simp; rfl)) hN4 ?_
        intro w1_6 j1 j2 j3 j4
        have hN3 := (j2 _ (by first | exact hnx4_3 | exact Ne.symm hnx3_4)).trans hN3
        have hN0 := (j2 _ (by first | exact hnx4_0 | exact Ne.symm hnx0_4)).trans hN0
        refine hK.out _ _ ⟨belT hS.1 j3 hG4, (j2 _ hne4_1).trans hS.2.1, (j2 _ hne4_2).trans hS.2.2⟩ (fun hS => ?_)
        have hN4 := j1
        clear j1 j2 j3 j4 hK
        refine wpAnyH_done (by kernel_rfl) ?_ _
        (go_wp2_with fail; go_meet; exact ⟨g3, g4, g0, rfl, rfl, hG3, hG4, hG0, hS.1, hS.2.1, hS.2.2, hN3, hN4, hN0⟩)
  case rest =>
    obtain ⟨bb, bf, b0, rfl, rfl, hbb, hbf, hb0, hBc, hn, hr, xb, xf, x0⟩ := hcut
    go_upto_region 5 with fail
    obtain ⟨x, hx⟩ : ∃ x : BX, x = ⟨gl, gs, wc.heap.size + 1, w.heap.size, bf, bb, w.heap.size + 1, wc.heap.size + 1 + 1⟩ := ⟨_, rfl⟩
    have hBW : Below wB.heap.size wB wc := belW HB.out hBc
    have hgl := blkB hBc HGL.out (blkLt HGL.out)
    have hgs := blkB hBc HGS.out (blkLt HGS.out)
    have l1 := blkLt HGL.out
    have l2 := blkLt HGS.out
    have l3 := blkLt hn
    have l4 := blkLt hr
    have l5 := blkLt xb
    have l6 := blkLt xf
    have l7 := blkLt x0
    have n1 : bb ≠ bf := by intro e; subst e; rw [xb] at xf; cases xf
    have n2 : bb ≠ b0 := by intro e; subst e; rw [xb] at x0; cases x0
    have n3 : bf ≠ b0 := by intro e; subst e; rw [xf] at x0; cases x0
    have n4 : bb ≠ w.heap.size := by intro e; subst e; rw [xb] at hn; cases hn
    have n5 : bb ≠ w.heap.size + 1 := by intro e; subst e; rw [xb] at hr; cases hr
    have n6 : bf ≠ w.heap.size := blk_ne xf hn (by decide)
    have n7 : bf ≠ w.heap.size + 1 := by intro e; subst e; rw [xf] at hr; cases hr
    have n8 : b0 ≠ w.heap.size := by intro e; subst e; rw [x0] at hn; cases hn
    have n9 : b0 ≠ w.heap.size + 1 := by intro e; subst e; rw [x0] at hr; cases hr
    have hsz := hBW.size
    have hsz2 := HB.out.size
    have hsz3 := hBc.size
    have D : x.Dis wB.heap.size := by
      subst hx
      exact ⟨by dsimp only; omega, by dsimp only; omega, by dsimp only; omega⟩
    obtain ⟨W2, hW2⟩ : ∃ W2, (((wc.alloc (.cells #[] 2)).alloc (.cells #[.slice (some ⟨wc.heap.size, 0, none⟩) 0 0] 22)).alloc (.cells #[.func (.func 26) #[] #[.pointer (some ⟨wc.heap.size + 1, 0, none⟩), .pointer (some ⟨w.heap.size, 0, none⟩), .pointer (some ⟨bf, 0, none⟩), .pointer (some ⟨bb, 0, none⟩), .pointer (some ⟨w.heap.size + 1, 0, none⟩), .pointer (some ⟨wc.heap.size + 1 + 1, 0, none⟩)]] 39)) = W2 := ⟨_, rfl⟩
    have S : ST ws strip A0 c0 x wB [] [] ((ws.length : Int) + 1) (.slice (some ⟨wc.heap.size, 0, none⟩) 0 0) (.slice (some ⟨b0, 0, none⟩) 0 0) W2 := by
      subst hx hW2
      refine ⟨belA (belA (belA hBW)), blkA (blkA (blkA hgl)), blkA (blkA (blkA hgs)), blkA (blkN (by simp)), blkA (blkA (blkA hn)), blkA (blkA (blkA xf)), blkA (blkA (blkA xb)), blkA (blkA (blkA hr)), blkN (by simp), emptyR (blkA (blkA (blkN rfl))) hsz ?_, emptyR (blkA (blkA (blkA x0))) (by omega) ⟨?_, ?_⟩⟩
      · simp only [BX.ok]; omega
      · simp only [BX.ok]; omega
      · simp only [Value.ownBlock]
        intro e
        injection e with e
        omega
    have HT := Aside0.mk (tryC ws HW.out H8.out strip A0 c0 x wB HR0.out D ws.length [] 0 ([], (ws.length : Int) + 1) _ _ W2 (by simp) (by simp) S)
    have eb : tryS ws strip ws.length [] ((0 : Nat) : Int) ([], (ws.length : Int) + 1) = bestS ws strip := rfl
    rw [eb] at HT
    rw [hW2]
    have ct : W2.cell? ⟨wc.heap.size + 1 + 1, 0, none⟩ = some (.func (.func 26) #[] #[.pointer (some ⟨wc.heap.size + 1, 0, none⟩), .pointer (some ⟨w.heap.size, 0, none⟩), .pointer (some ⟨bf, 0, none⟩), .pointer (some ⟨bb, 0, none⟩), .pointer (some ⟨w.heap.size + 1, 0, none⟩), .pointer (some ⟨wc.heap.size + 1 + 1, 0, none⟩)]) := by
      have := (blkC S.xt 0).trans rfl
      subst hx
      exact this
    have ebb : x.bb = bb := by rw [hx]
    have ebf : x.bf = bf := by rw [hx]
    have ebl : x.bl = wc.heap.size + 1 := by rw [hx]
    have ebn : x.bn = w.heap.size := by rw [hx]
    have ebr : x.br = w.heap.size + 1 := by rw [hx]
    have ebt : x.bt = wc.heap.size + 1 + 1 := by rw [hx]
    rw [ebl, ebn, ebf, ebb, ebr, ebt] at HT
    clear hW2 S hgl hgs n1 n2 n3 n4 n5 n6 n7 n8 n9 hx eb xb xf x0 hn hr
    go_upto_region 6 with (first | (go_at_call 26; refine HT.out.mono ?_; rintro e w4 ⟨rfl, vL4, vB4, S4⟩))
    have cb := (blkC S4.xb 0).trans rfl
    have cf := (blkC S4.xf 0).trans rfl
    rw [ebb] at cb
    rw [ebf] at cf
    refine wp_region_held_drew (S := fun w' => w'.cell? ⟨bb, 0, none⟩ = some vB4 ∧ w'.cell? ⟨bf, 0, none⟩ = some (.int .i64 (bestS ws strip).2) ∧ Below wB.heap.size wB w' ∧ Kd.R (Kd.int .i64) 2 w' wB.heap.size (fun _ => True) vB4 (bestS ws strip).1) (by kernel_rfl) ⟨cb, cf, belD S4.base, Kd.R_drew (Kd.R_mono S4.oB (fun _ _ => trivial))⟩ (fun hS => ?_)
    refine takeAny 0 (dN := some 17) (v := ?v2_0_1) rfl rfl (by kernel_rfl) (by kernel_rfl) (by kernel_rfl) (fun _ _ _ h => h) (.inl ⟨rfl, fun w' hSw => ?h2_0_1⟩) hS ?_
    case h2_0_1 => (go_simp; first | done | with_reducible rfl)
    simp only [Act.put, List.setIfInBounds_toArray, List.set_cons_zero, List.set_cons_succ]
    refine takeAny 1 (dN := some 18) (v := ?v2_1_2) rfl rfl (by kernel_rfl) (by kernel_rfl) (by kernel_rfl) (fun _ _ _ h => h) (.inl ⟨rfl, fun w' hSw => ?h2_1_2⟩) hS ?_
    case h2_1_2 => (go_simp; first | done | with_reducible rfl)
    simp only [Act.put, List.setIfInBounds_toArray, List.set_cons_zero, List.set_cons_succ]
    refine takeAny 2 (dN := some 4) (v := ?v2_2_3) rfl rfl (by kernel_rfl) (by kernel_rfl) (by kernel_rfl) (fun _ _ _ h => h) (.inl ⟨rfl, fun w' hSw => ?h2_2_3⟩) hS ?_
    case h2_2_3 => (go_simp; first | done | with_reducible rfl)
    simp only [Act.put, List.setIfInBounds_toArray, List.set_cons_zero, List.set_cons_succ]
    refine takeAny 3 (dN := some 5) (v := ?v2_3_4) rfl rfl (by kernel_rfl) (by kernel_rfl) (by kernel_rfl) (fun _ _ _ h => h) (.inl ⟨rfl, fun w' hSw => ?h2_3_4⟩) hS ?_
    case h2_3_4 => (go_simp; first | done | with_reducible rfl)
    simp only [Act.put, List.setIfInBounds_toArray, List.set_cons_zero, List.set_cons_succ]
    refine wpAnyH_done (by kernel_rfl) ?_ _
    go_wp2
    go_ret2
    exact ⟨_, rfl, hS.2.2.2, hS.2.2.1⟩
/-- What FewestStrips answers. -/
def impl_FewestStrips.f (k : Nat) (l0 : List Int) (a1 : Int) : Option (List Int × Int × Int) :=
  (impl_stripCode.f l0 a1).bind fun c => if c = 0 then (if l0.length ≤ 8 ∧ l0.all (fun x => decide (0 ≤ x) && decide (x ≤ 5000)) = true then some ((bestS l0 a1).1, (bestS l0 a1).2, 0) else none) else some ([], 0, c)
theorem impl_FewestStrips.mono : ∀ a0 a1 k, LeO (impl_FewestStrips.f k a0 a1) (impl_FewestStrips.f (k + 1) a0 a1) := fun _ _ _ => LeO.refl _
set_option maxHeartbeats 8000000 in
set_option maxRecDepth 100000 in
theorem impl_FewestStrips.calls (k : Nat) (A0 : Option Addr) (c0 : Nat) (l0 : List Int) (a1 : Int) (r1 : List Int) (r2 : Int) (r3 : Int) (w : World) (hr0 : Kd.C (Kd.int .i64) w A0 l0.length l0) (hc0 : l0.length ≤ c0) (h : impl_FewestStrips.f k l0 a1 = some (r1, r2, r3)) :
    Calls Try.prog 12 #[.slice A0 l0.length c0, .int .i64 a1] w fun e w' => ∃ v0_ : Value, e = .returned (.tuple #[v0_, .int .i64 r2, .int .i64 r3]) ∧ Kd.R (Kd.int .i64) 2 w' w.heap.size (fun _ => True) v0_ r1 ∧ Below w.heap.size w w' := by
  unfold impl_FewestStrips.f at h
  obtain ⟨c, h1, h2⟩ := Option.bind_eq_some_iff.mp h
  have HC := Aside0.mk (fun (w : World) hr => impl_stripCode.calls A0 c0 l0 a1 c w hr hc0 h1)
  have HR0 := Aside0.mk hr0
  clear h h1 hr0 hc0
  have b1 : ((w.alloc (.cells #[.slice A0 l0.length c0] 22)).alloc (.cells #[.int .i64 a1] 2)).heap[w.heap.size]? = some (.cells #[.slice A0 l0.length c0] 22 (0, 0)) := blkA (blkN rfl)
  have b2 : ((w.alloc (.cells #[.slice A0 l0.length c0] 22)).alloc (.cells #[.int .i64 a1] 2)).heap[w.heap.size + 1]? = some (.cells #[.int .i64 a1] 2 (0, 0)) := blkN (by simp)
  by_cases h0 : c = 0
  case neg =>
    rw [if_neg h0] at h2
    obtain ⟨rfl, rfl, rfl⟩ : [] = r1 ∧ 0 = r2 ∧ c = r3 := by simpa using h2
    have q1 : (c == 0) = false := by simpa using h0
    have q2 : (c != 0) = true := by simpa using h0
    clear h2 h0 b1 b2
    go_enter Try.func12, Try.ntmps12
    go_wp2_with (first | (go_at_call 14; refine (HC.out _ (Kd.C_alloc (Kd.C_alloc HR0.out _) _)).mono ?_; rintro e w1 ⟨rfl, hb⟩))
    go_ret3
    exact ⟨_, rfl, Kd.R_nil _ _ _ _ _, belW (belA (belA (Below.refl _ _))) hb⟩
  subst h0
  rw [if_pos rfl] at h2
  by_cases h4 : l0.length ≤ 8 ∧ l0.all (fun x => decide (0 ≤ x) && decide (x ≤ 5000)) = true
  case neg => rw [if_neg h4] at h2; cases h2
  rw [if_pos h4] at h2
  obtain ⟨rfl, rfl, rfl⟩ : (bestS l0 a1).1 = r1 ∧ (bestS l0 a1).2 = r2 ∧ 0 = r3 := by simpa using h2
  obtain ⟨h8, hall⟩ := h4
  have hw : ∀ x ∈ l0, 0 ≤ x ∧ x ≤ 5000 := fun x hx => by
    have := List.all_eq_true.1 hall x hx
    simpa using this
  have HS := Aside0.mk (fun (w1 : World) (hB : Below w.heap.size w w1) hgl hgs => sharedC l0 hw h8 a1 A0 c0 w.heap.size (w.heap.size + 1) w HR0.out w1 hB hgl hgs)
  have HB1 := Aside0.mk b1
  have HB2 := Aside0.mk b2
  clear h2 hall hw h8 b1 b2
  go_enter Try.func12, Try.ntmps12
  go_wp2_with (first | (go_at_call 14; refine (HC.out _ (Kd.C_alloc (Kd.C_alloc HR0.out _) _)).mono ?_; rintro e w1 ⟨rfl, hb⟩; have g1 := blkB hb HB1.out (blkLt HB1.out); have g2 := blkB hb HB2.out (blkLt HB2.out); have k1 : w1.cell? ⟨w.heap.size, 0, none⟩ = some (.slice A0 l0.length c0) := (blkC g1 0).trans rfl) | (go_at_call 16; refine (HS.out w1 (belW (belA (belA (Below.refl _ _))) hb) g1 g2).mono ?_; rintro e w2 ⟨v2, rfl, ho2, hb2⟩))
  go_ret3
  exact ⟨_, rfl, by repeat (first | exact ho2 | apply Kd.R_drewN | apply Kd.R_drew), by repeat (first | exact hb2 | apply belD | apply belDN)⟩
end

end Go.Proofs.Ytohooogfaeogeaa.QC
