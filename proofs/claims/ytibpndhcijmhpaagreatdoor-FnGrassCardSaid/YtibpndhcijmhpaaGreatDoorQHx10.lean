/- Walks: printed by a program of this session; nothing here is trusted. -/
import Derived.Test.YtibpndhcijmhpaaGreatDoorQHx0
import Derived.Test.YtibpndhcijmhpaaGreatDoorQHx2
import Derived.Test.YtibpndhcijmhpaaGreatDoorQHx3
import Derived.Test.YtibpndhcijmhpaaGreatDoorQHx5
import Derived.Test.YtibpndhcijmhpaaGreatDoorQHx9
namespace Go.Proofs.YtibpndhcijmhpaaGreatDoor.QG
open Go.RowKit Go.Proofs.YtibpndhcijmhpaaGreatDoorW.PrintWords Go.Proofs.YtibpndhcijmhpaaGreatDoorW.PrintLast Go.Proofs.YtibpndhcijmhpaaGreatDoorW.PrintMore
attribute [local go_sem] max2_int min2_int max_two min_two max_three min_three max_four min_four   -- for this text's walks alone
set_option linter.unusedVariables false
set_option linter.unusedSimpArgs false

/-! ### impl_SeedDays: function 29 -/
def impl_SeedDays.l0 : Nat → List (S43) → Int → Int → Int → List Int → Int → Option (List Int × Int)
 | 0, _, _, _, _, _, _ => none
 | k + 1, x0, x1, x6, x7, x10, x11 => if (wrap64 (x11 + x1)) ≤ (x0.length : Int) then (if 0 ≤ x11 then (if x11 ≤ (wrap64 (x11 + x1)) then ((seed_any.f ((x0.take ((wrap64 (x11 + x1)) : Int).toNat).drop (x11 : Int).toNat) x6 x7).bind fun t412 => (if t412 = true then (impl_SeedDays.l0 k x0 x1 x6 x7 x10 (wrap64 (x11 + 1))) else (if x10.length < 17592186044416 then (impl_SeedDays.l0 k x0 x1 x6 x7 (x10 ++ [x11]) (wrap64 (x11 + 1))) else (none)))) else (none)) else (none)) else (some (x10, 0))
def impl_SeedDays.f (k : Nat) (l0 : List (S43)) (a1 : Int) (a2 : Int) (a3 : Int) : Option (List Int × Int) := (impl_ValidWeather.f k l0).bind fun t401 => (if t401 = true then ((impl_within.f a1 1 30).bind fun t402 => (if t402 = true then ((impl_within.f a2 0 50).bind fun t403 => (if t403 = true then ((impl_within.f a3 0 40).bind fun t404 => (if t404 = true then (impl_SeedDays.l0 k l0 a1 a2 a3 (([] : List Int)) 0) else (some (([] : List Int), 2)))) else (some (([] : List Int), 2)))) else (some (([] : List Int), 2)))) else (some (([] : List Int), 1)))
set_option maxHeartbeats 8000000 in
set_option maxRecDepth 100000 in
theorem impl_SeedDays.calls (k : Nat) (A0 : Option Addr) (c0 : Nat) (l0 : List (S43)) (a1 : Int) (a2 : Int) (a3 : Int) (r1 : List Int) (r2 : Int) (w : World) (hr0 : Kd.C k43 w A0 l0.length l0) (hc0 : l0.length ≤ c0) (h : impl_SeedDays.f k l0 a1 a2 a3 = some (r1, r2)) :
  Calls Tryz.prog 29 #[.slice A0 l0.length c0, .int .i64 a1, .int .i64 a2, .int .i64 a3] w fun e w' => ∃ v0_ : Value, e = .returned (.tuple #[v0_, .int .i64 r2]) ∧ Kd.R (Kd.int .i64) 2 w' w.heap.size (fun _ => True) v0_ r1 ∧ Below w.heap.size w w' := by
 have HR0 := Aside0.mk hr0
 have HC0 := Aside0.mk hc0
 clear hr0 hc0
 have HB := Aside0.mk (Below.refl w.heap.size w)
 have H : ((impl_ValidWeather.f k l0).bind fun t401 => (if t401 = true then ((impl_within.f a1 1 30).bind fun t402 => (if t402 = true then ((impl_within.f a2 0 50).bind fun t403 => (if t403 = true then ((impl_within.f a3 0 40).bind fun t404 => (if t404 = true then (impl_SeedDays.l0 k l0 a1 a2 a3 (([] : List Int)) 0) else (some (([] : List Int), 2)))) else (some (([] : List Int), 2)))) else (some (([] : List Int), 2)))) else (some (([] : List Int), 1)))) = some (r1, r2) := h
 clear h
 replace H := Option.bind_eq_some_iff.mp H
 obtain ⟨t401, A50, H⟩ := H
 replace H : (if t401 = true then ((impl_within.f a1 1 30).bind fun t402 => (if t402 = true then ((impl_within.f a2 0 50).bind fun t403 => (if t403 = true then ((impl_within.f a3 0 40).bind fun t404 => (if t404 = true then (impl_SeedDays.l0 k l0 a1 a2 a3 (([] : List Int)) 0) else (some (([] : List Int), 2)))) else (some (([] : List Int), 2)))) else (some (([] : List Int), 2)))) else (some (([] : List Int), 1))) = some (r1, r2) := H
 have A5 := Aside0.mk A50
 clear A50
 by_cases c6 : t401 = true
 ·
  subst c6
  have H1 : ((impl_within.f a1 1 30).bind fun t402 => (if t402 = true then ((impl_within.f a2 0 50).bind fun t403 => (if t403 = true then ((impl_within.f a3 0 40).bind fun t404 => (if t404 = true then (impl_SeedDays.l0 k l0 a1 a2 a3 (([] : List Int)) 0) else (some (([] : List Int), 2)))) else (some (([] : List Int), 2)))) else (some (([] : List Int), 2)))) = some (r1, r2) := by rw [if_pos rfl] at H; exact H
  clear H
  have H := H1
  clear H1
  replace H := Option.bind_eq_some_iff.mp H
  obtain ⟨t402, A70, H⟩ := H
  replace H : (if t402 = true then ((impl_within.f a2 0 50).bind fun t403 => (if t403 = true then ((impl_within.f a3 0 40).bind fun t404 => (if t404 = true then (impl_SeedDays.l0 k l0 a1 a2 a3 (([] : List Int)) 0) else (some (([] : List Int), 2)))) else (some (([] : List Int), 2)))) else (some (([] : List Int), 2))) = some (r1, r2) := H
  have A7 := Aside0.mk A70
  clear A70
  by_cases c8 : t402 = true
  ·
   subst c8
   have H1 : ((impl_within.f a2 0 50).bind fun t403 => (if t403 = true then ((impl_within.f a3 0 40).bind fun t404 => (if t404 = true then (impl_SeedDays.l0 k l0 a1 a2 a3 (([] : List Int)) 0) else (some (([] : List Int), 2)))) else (some (([] : List Int), 2)))) = some (r1, r2) := by rw [if_pos rfl] at H; exact H
   clear H
   have H := H1
   clear H1
   replace H := Option.bind_eq_some_iff.mp H
   obtain ⟨t403, A90, H⟩ := H
   replace H : (if t403 = true then ((impl_within.f a3 0 40).bind fun t404 => (if t404 = true then (impl_SeedDays.l0 k l0 a1 a2 a3 (([] : List Int)) 0) else (some (([] : List Int), 2)))) else (some (([] : List Int), 2))) = some (r1, r2) := H
   have A9 := Aside0.mk A90
   clear A90
   by_cases c10 : t403 = true
   ·
    subst c10
    have H1 : ((impl_within.f a3 0 40).bind fun t404 => (if t404 = true then (impl_SeedDays.l0 k l0 a1 a2 a3 (([] : List Int)) 0) else (some (([] : List Int), 2)))) = some (r1, r2) := by rw [if_pos rfl] at H; exact H
    clear H
    have H := H1
    clear H1
    replace H := Option.bind_eq_some_iff.mp H
    obtain ⟨t404, A110, H⟩ := H
    replace H : (if t404 = true then (impl_SeedDays.l0 k l0 a1 a2 a3 (([] : List Int)) 0) else (some (([] : List Int), 2))) = some (r1, r2) := H
    have A11 := Aside0.mk A110
    clear A110
    by_cases c12 : t404 = true
    ·
     subst c12
     have H1 : (impl_SeedDays.l0 k l0 a1 a2 a3 (([] : List Int)) 0) = some (r1, r2) := by rw [if_pos rfl] at H; exact H
     clear H
     have H := H1
     clear H1
     obtain ⟨y405, hy405⟩ : ∃ y_ : List Int, y_ = (([] : List Int)) := ⟨_, rfl⟩
     replace H : (impl_SeedDays.l0 k l0 a1 a2 a3 y405 0) = some (r1, r2) := by first | (rw [hy405]; with_reducible exact H) | (have H2_ := (Option.bind_some _ _).symm.trans H; rw [hy405]; with_reducible exact H2_) | (have H2_ := (Option.bind_some _ _).symm.trans H; with_reducible exact H2_) | with_reducible exact H | (rw [hy405]; exact H) | exact H
     have Ny405 := Aside0.mk hy405
     clear hy405
     have H' := Aside0.mk H
     clear H
     go_enter Tryz.func29, Tryz.ntmps29
     go_upto_region 1 with fail
     obtain ⟨W0, hW0⟩ : ∃ W0, W0 = (w.alloc (.cells #[.int .i64 a2] 2)).alloc (.cells #[.int .i64 a3] 2) := ⟨_, rfl⟩
     obtain ⟨g1, hg1⟩ : ∃ g1, g1 = w.heap.size := ⟨_, rfl⟩
     obtain ⟨g2, hg2⟩ : ∃ g2, g2 = w.heap.size + 1 := ⟨_, rfl⟩
     have hBL : Aside0 (Below w.heap.size w W0) := ⟨by rw [hW0]; exact below_alloc (below_alloc (Below.refl _ _) _) _⟩
     have b1_ : W0.heap[g1]? = some (.cells #[.int .i64 a2] 2 (0, 0)) := by rw [hW0, hg1]; exact (Below.heap_alloc _ _ _ (by simp)).trans (heap_alloc_new w _)
     have b2_ : W0.heap[g2]? = some (.cells #[.int .i64 a3] 2 (0, 0)) := by rw [hW0, hg2]; have := heap_alloc_new (w.alloc (.cells #[.int .i64 a2] 2)) (.cells #[.int .i64 a3] 2); simpa using this
     have BX : Aside0 (W0.cell? ⟨g1, 0, none⟩ = some (.int .i64 a2)) := ⟨(cell_of_row _ _ 0 _ _ (0, 0) b1_).trans rfl⟩
     have BY : Aside0 (W0.cell? ⟨g2, 0, none⟩ = some (.int .i64 a3)) := ⟨(cell_of_row _ _ 0 _ _ (0, 0) b2_).trans rfl⟩
     have r0_ : Kd.C k43 W0 A0 l0.length l0 := by rw [hW0]; exact Kd.C_alloc (Kd.C_alloc HR0.out _) _
     rw [← hW0, ← hg2, ← hg1]
     clear hW0 hg1 hg2 b1_ b2_ HB HR0
     have HR0 := Aside0.mk r0_
     have HB := Aside0.mk (Below.refl W0.heap.size W0)
     clear r0_
     go_wp2_with (first | ((with_reducible refine gate_callee (f := 18) rfl ?_); refine goesL_ (some 14) rfl rfl Tryz.func18 (by kernel_rfl) rfl #[.slice A0 l0.length c0] rfl aA ?_; (with_reducible refine (impl_ValidWeather.calls k _ _ l0 true _ ?side1 ?side2 A5.out).mono ?_); (case side1 => repeat (first | exact HR0.out | (with_reducible refine Kd.C_alloc ?_ _) | (with_reducible refine Kd.C_drewN ?_ _) | (with_reducible refine Kd.C_drew ?_))); (case side2 => exact HC0.out); rintro e w13 ⟨rfl, hb⟩; refine ⟨_, rfl, ?_⟩; have bx_ := (hb.cell (World.block_lt_of_cell? _ _ BX.out)).trans BX.out; have by_ := (hb.cell (World.block_lt_of_cell? _ _ BY.out)).trans BY.out; have n0_ := Aside0.mk (below_step bB hb); clear HB; have HB := n0_; clear n0_; (try clear hb); (try clear hb2); (try clear hk); (try clear hi)) | ((with_reducible refine gate_callee (f := 40) rfl ?_); refine goesL_ (some 18) rfl rfl Tryz.func40 (by kernel_rfl) rfl #[.int .i64 a1, .int .i64 1, .int .i64 30] rfl aA ?_; (with_reducible refine (impl_within.calls a1 1 30 true _ A7.out).mono ?_); rintro e w' ⟨rfl, ⟨nd, rfl⟩⟩; refine ⟨_, rfl, ?_⟩) | (go_at_call 40; (with_reducible refine (impl_within.calls a2 0 50 true _ A9.out).mono ?_); rintro e w' ⟨rfl, ⟨nd, rfl⟩⟩) | (go_at_call 40; (with_reducible refine (impl_within.calls a3 0 40 true _ A11.out).mono ?_); rintro e w' ⟨rfl, ⟨nd, rfl⟩⟩) | ((with_reducible refine gate_dst (N := 30) rfl ?_); refine Kd.R_lit (Kd.int .i64) _ 2 ?hg (N := 30) ?hd (xs := ([] : List Int)) (inner := []) (ok := fun _ => True) (okp := fun _ => True) ?hr ?hp (fun _ hk => hk) trivial (Below.refl _ _) (Nat.le_refl _) (by simp) ?_; (case hd => rfl); (case hg => rfl); (case hr => first | (go_simp; done) | (go_simp; rfl)); (case hp => exact (Reps.none _ _)); intro v406 w14 ho15 hb hg_ hnew_; clear hg_ hnew_; (first | rw [← Ny405.out] at ho15 | (simp only [Int.reduceToNat] at ho15; rw [← Ny405.out] at ho15)); have n0_ := Aside0.mk (Kd.R_lower ho15 (below_size bB)); have n1_ := Aside0.mk (below_step bB hb); clear HB; have HO407 := n0_; have HB := n1_; clear n0_ n1_; clear hb ho15))
     go_loopg [10, 11] k (fun kq v10 v11 w' => ∃ (x10_1 : List Int) (x11_1 : Int), v11 = .int .i64 x11_1 ∧ Aside0 (impl_SeedDays.l0 kq l0 a1 a2 a3 x10_1 x11_1 = some (r1, r2)) ∧ Aside0 (kq ≤ k) ∧ Aside0 (Kd.R (Kd.int .i64) 2 w' W0.heap.size (fun _ => True) v10 x10_1) ∧ Aside0 (Below W0.heap.size W0 w'))
     case atStart => exact ⟨(y405), (0), eE, H', ⟨Nat.le_refl _⟩, ⟨rR HO407.out⟩, ⟨bB⟩⟩
     case round =>
      clear H'
      try clear c1
      try clear c2
      try clear c6
      try clear c8
      try clear c10
      try clear c12
      obtain ⟨x10_1, x11_1, rfl, HA, HK1, HO_10, HB⟩ := hrel
      cases gk with
      | zero => exact absurd HA.out (by simp [impl_SeedDays.l0])
      | succ k1 =>
       have H := HA.out
       clear HA
       simp only [impl_SeedDays.l0] at H
       by_cases c16 : (wrap64 (x11_1 + a1)) ≤ (l0.length : Int)
       ·
        rw [if_pos c16] at H
        have c16b0 : decide ((wrap64 (x11_1 + a1)) ≤ (l0.length : Int)) = true := decide_eq_true c16
        clear c16
        by_cases c17 : 0 ≤ x11_1
        ·
         rw [if_pos c17] at H
         have c17b0 := eq_true c17
         have c17b1 : decide (0 ≤ x11_1) = true := decide_eq_true c17
         clear c17
         by_cases c18 : x11_1 ≤ (wrap64 (x11_1 + a1))
         ·
          rw [if_pos c18] at H
          have c18b0 := eq_true c18
          have c18b1 : decide (x11_1 ≤ (wrap64 (x11_1 + a1))) = true := decide_eq_true c18
          have c19b0 := eq_true (dD : (wrap64 (x11_1 + a1)) ≤ (l0.length : Int))
          obtain ⟨y408, hy408⟩ : ∃ y_ : List (S43), y_ = ((l0.take ((wrap64 (x11_1 + a1)) : Int).toNat).drop (x11_1 : Int).toNat) := ⟨_, rfl⟩
          replace H : ((seed_any.f y408 a2 a3).bind fun t412 => (if t412 = true then (impl_SeedDays.l0 k1 l0 a1 a2 a3 x10_1 (wrap64 (x11_1 + 1))) else (if x10_1.length < 17592186044416 then (impl_SeedDays.l0 k1 l0 a1 a2 a3 (x10_1 ++ [x11_1]) (wrap64 (x11_1 + 1))) else (none)))) = some (r1, r2) := by first | (rw [hy408]; with_reducible exact H) | (have H2_ := (Option.bind_some _ _).symm.trans H; rw [hy408]; with_reducible exact H2_) | (have H2_ := (Option.bind_some _ _).symm.trans H; with_reducible exact H2_) | with_reducible exact H | (rw [hy408]; exact H) | exact H
          have Ny408 := Aside0.mk hy408
          clear hy408
          replace H := Option.bind_eq_some_iff.mp H
          obtain ⟨t412, A200, H⟩ := H
          replace H : (if t412 = true then (impl_SeedDays.l0 k1 l0 a1 a2 a3 x10_1 (wrap64 (x11_1 + 1))) else (if x10_1.length < 17592186044416 then (impl_SeedDays.l0 k1 l0 a1 a2 a3 (x10_1 ++ [x11_1]) (wrap64 (x11_1 + 1))) else (none))) = some (r1, r2) := H
          have A20 := Aside0.mk A200
          clear A200
          by_cases c21 : t412 = true
          ·
           subst c21
           have H1 : (impl_SeedDays.l0 k1 l0 a1 a2 a3 x10_1 (wrap64 (x11_1 + 1))) = some (r1, r2) := by rw [if_pos rfl] at H; exact H
           clear H
           have H := H1
           clear H1
           have H' := Aside0.mk H
           clear H
           have q22 : ((wrap64 (x11_1 + a1)) : Int) ≤ ((l0.length : Int) : Int) := dD
           obtain ⟨i022, hi022, _, hsz22, _⟩ := info_parts info43
           have hroom22 : l0.length ≤ c0 := HC0.out
           have hC22 : Kd.C k43 _ A0 l0.length l0 := HR0.out
           have ql22 : (x11_1 : Int) ≤ ((wrap64 (x11_1 + a1)) : Int) := dD
           have q022 : (0 : Int) ≤ (x11_1 : Int) := dD
           have hcut22 := cut_mid (P := Tryz.prog) 24 43 .i64 .i64 Tryz.underlying24 hi022 2 hsz22 A0 l0.length c0 x11_1 (wrap64 (x11_1 + a1)) q022 ql22 q22 hroom22
           have hr22 := Kd.C_mid (lo := (x11_1 : Int).toNat) (hi := ((wrap64 (x11_1 + a1)) : Int).toNat) (c := c0) hC22 (by omega) (by omega) hroom22
           obtain ⟨A22, hA22⟩ : ∃ A1, A1 = (if c0 = (x11_1 : Int).toNat then A0 else (A0 : Option Addr).map (·.add ((x11_1 : Int).toNat * 2))) := ⟨_, rfl⟩
           obtain ⟨c22, hc22⟩ : ∃ c1, c1 = c0 - (x11_1 : Int).toNat := ⟨_, rfl⟩
           have hy22 : y408.length = ((wrap64 (x11_1 + a1)) : Int).toNat - (x11_1 : Int).toNat := (by rw [Ny408.out, List.length_drop, List.length_take] <;> omega)
           rw [show ((l0).take ((wrap64 (x11_1 + a1)) : Int).toNat).drop (x11_1 : Int).toNat = y408 from Ny408.out.symm] at hr22
           replace hr22 : Kd.C k43 _ A22 y408.length y408 := (by rw [hA22]; exact hr22)
           rw [← hy22, ← hA22, ← hc22] at hcut22
           have HR411 := Aside0.mk hr22
           have HC411 := Aside0.mk (show y408.length ≤ c22 from by rw [hy22, hc22]; exact Nat.sub_le_sub_right (Nat.le_trans (by omega) hroom22) _)
           clear hr22 hC22 hroom22 hi022 hsz22 hc22
           have KY22 := Aside0.mk hy22
           have KA22 := Aside0.mk hA22
           clear hy22 hA22
           replace q22 := eq_true q22
           go_wp2_with (first | ((with_reducible refine gate_callee (f := 52) rfl ?_); refine goesL_ (some 46) rfl rfl Tryz.func52 (by kernel_rfl) rfl #[.slice A22 y408.length c22, .func (.func 62) #[] #[.pointer (some ⟨g1, 0, none⟩), .pointer (some ⟨g2, 0, none⟩)]] rfl aA ?_; (with_reducible refine (seed_any.calls _ _ y408 a2 a3 true g1 g2 _ ?side1 ?side2 ?side3 A20.out).mono ?_); (case side1 => repeat (first | exact (Kd.C_below HR411.out HB.out) | (with_reducible refine Kd.C_alloc ?_ _) | (with_reducible refine Kd.C_drewN ?_ _) | (with_reducible refine Kd.C_drew ?_))); (case side2 => exact (HB.out.cell (World.block_lt_of_cell? _ _ BX.out)).trans BX.out); (case side3 => exact (HB.out.cell (World.block_lt_of_cell? _ _ BY.out)).trans BY.out); rintro e w23 ⟨rfl, hb⟩; refine ⟨_, rfl, ?_⟩; have n0_ := Aside0.mk (Kd.R_below (rR HO_10.out) hb); have n1_ := Aside0.mk (below_step bB hb); clear HO_10; clear HB; have HO_10 := n0_; have HB := n1_; clear n0_ n1_; (try clear hb); (try clear hb2); (try clear hk); (try clear hi)))
           go_roundg k1
           case measure => have := HK1.out; omega
           case rel => exact ⟨(x10_1), (wrap64 (x11_1 + 1)), eE, H', ⟨by have := HK1.out; omega⟩, ⟨rR HO_10.out⟩, ⟨bB⟩⟩
          ·
           replace c21 := Bool.eq_false_iff.mpr c21
           subst c21
           have H1 : (if x10_1.length < 17592186044416 then (impl_SeedDays.l0 k1 l0 a1 a2 a3 (x10_1 ++ [x11_1]) (wrap64 (x11_1 + 1))) else (none)) = some (r1, r2) := by rw [if_neg (show ¬ (false = true) by decide)] at H; exact H
           clear H
           have H := H1
           clear H1
           by_cases c24 : x10_1.length < 17592186044416
           ·
            rw [if_pos c24] at H
            have LMc24 := Aside0.mk c24
            clear c24
            obtain ⟨y413, hy413⟩ : ∃ y_ : List Int, y_ = (x10_1 ++ [x11_1]) := ⟨_, rfl⟩
            replace H : (impl_SeedDays.l0 k1 l0 a1 a2 a3 y413 (wrap64 (x11_1 + 1))) = some (r1, r2) := by first | (rw [hy413]; with_reducible exact H) | (have H2_ := (Option.bind_some _ _).symm.trans H; rw [hy413]; with_reducible exact H2_) | (have H2_ := (Option.bind_some _ _).symm.trans H; with_reducible exact H2_) | with_reducible exact H | (rw [hy413]; exact H) | exact H
            have Ny413 := Aside0.mk hy413
            clear hy413
            have H' := Aside0.mk H
            clear H
            have q25 : ((wrap64 (x11_1 + a1)) : Int) ≤ ((l0.length : Int) : Int) := dD
            obtain ⟨i025, hi025, _, hsz25, _⟩ := info_parts info43
            have hroom25 : l0.length ≤ c0 := HC0.out
            have hC25 : Kd.C k43 _ A0 l0.length l0 := HR0.out
            have ql25 : (x11_1 : Int) ≤ ((wrap64 (x11_1 + a1)) : Int) := dD
            have q025 : (0 : Int) ≤ (x11_1 : Int) := dD
            have hcut25 := cut_mid (P := Tryz.prog) 24 43 .i64 .i64 Tryz.underlying24 hi025 2 hsz25 A0 l0.length c0 x11_1 (wrap64 (x11_1 + a1)) q025 ql25 q25 hroom25
            have hr25 := Kd.C_mid (lo := (x11_1 : Int).toNat) (hi := ((wrap64 (x11_1 + a1)) : Int).toNat) (c := c0) hC25 (by omega) (by omega) hroom25
            obtain ⟨A25, hA25⟩ : ∃ A1, A1 = (if c0 = (x11_1 : Int).toNat then A0 else (A0 : Option Addr).map (·.add ((x11_1 : Int).toNat * 2))) := ⟨_, rfl⟩
            obtain ⟨c25, hc25⟩ : ∃ c1, c1 = c0 - (x11_1 : Int).toNat := ⟨_, rfl⟩
            have hy25 : y408.length = ((wrap64 (x11_1 + a1)) : Int).toNat - (x11_1 : Int).toNat := (by rw [Ny408.out, List.length_drop, List.length_take] <;> omega)
            rw [show ((l0).take ((wrap64 (x11_1 + a1)) : Int).toNat).drop (x11_1 : Int).toNat = y408 from Ny408.out.symm] at hr25
            replace hr25 : Kd.C k43 _ A25 y408.length y408 := (by rw [hA25]; exact hr25)
            rw [← hy25, ← hA25, ← hc25] at hcut25
            have HR411 := Aside0.mk hr25
            have HC411 := Aside0.mk (show y408.length ≤ c25 from by rw [hy25, hc25]; exact Nat.sub_le_sub_right (Nat.le_trans (by omega) hroom25) _)
            clear hr25 hC25 hroom25 hi025 hsz25 hc25
            have KY25 := Aside0.mk hy25
            have KA25 := Aside0.mk hA25
            clear hy25 hA25
            replace q25 := eq_true q25
            go_wp2_with (first | ((with_reducible refine gate_callee (f := 52) rfl ?_); refine goesL_ (some 46) rfl rfl Tryz.func52 (by kernel_rfl) rfl #[.slice A25 y408.length c25, .func (.func 62) #[] #[.pointer (some ⟨g1, 0, none⟩), .pointer (some ⟨g2, 0, none⟩)]] rfl aA ?_; (with_reducible refine (seed_any.calls _ _ y408 a2 a3 false g1 g2 _ ?side1 ?side2 ?side3 A20.out).mono ?_); (case side1 => repeat (first | exact (Kd.C_below HR411.out HB.out) | (with_reducible refine Kd.C_alloc ?_ _) | (with_reducible refine Kd.C_drewN ?_ _) | (with_reducible refine Kd.C_drew ?_))); (case side2 => exact (HB.out.cell (World.block_lt_of_cell? _ _ BX.out)).trans BX.out); (case side3 => exact (HB.out.cell (World.block_lt_of_cell? _ _ BY.out)).trans BY.out); rintro e w26 ⟨rfl, hb⟩; refine ⟨_, rfl, ?_⟩; have n0_ := Aside0.mk (Kd.R_below (rR HO_10.out) hb); have n1_ := Aside0.mk (below_step bB hb); clear HO_10; clear HB; have HO_10 := n0_; have HB := n1_; clear n0_ n1_; (try clear hb); (try clear hb2); (try clear hk); (try clear hi)) | ((with_reducible refine gate_builtin (b := .append) (xs := #[.tmp 48, .tmp 50]) rfl ?_); at_builtin; refine Kd.R_append (Kd.int .i64) (w0 := W0) W0.heap.size rfl (.tmp 48) (.tmp 50) 26 2 (.int .i64 0) 8 rfl Tryz.underlying26 info2 rfl (by decide) (by omega) u10 x10_1 x11_1 [.int .i64 x11_1] (fun _ => True) (fun _ => False) rfl rfl ?aP (fun _ hk => hk.elim) ?aF ?aO ?aB ?aS ?aL ?_; (case aP => exact rfl); (case aB => exact bB); (case aF => exact (fun _ _ => trivial)); (case aO => exact (rR HO_10.out)); (case aS => exact (below_size bB)); (case aL => have := LMc24.out; omega); intro v414 w27 ho hb hg hat; rw [← Ny413.out] at ho; have n0_ := Aside0.mk (hb); have n1_ := Aside0.mk (ho); clear HB; clear HO_10; have HB := n0_; have HO415 := n1_; clear n0_ n1_; clear ho hb hg hat))
            go_roundg k1
            case measure => have := HK1.out; omega
            case rel => exact ⟨(y413), (wrap64 (x11_1 + 1)), eE, H', ⟨by have := HK1.out; omega⟩, ⟨rR HO415.out⟩, ⟨bB⟩⟩
           ·
            rw [if_neg c24] at H
            exact absurd H (by simp)
         ·
          rw [if_neg c18] at H
          exact absurd H (by simp)
        ·
         rw [if_neg c17] at H
         exact absurd H (by simp)
       ·
        rw [if_neg c16] at H
        have c16b0 : decide ((wrap64 (x11_1 + a1)) ≤ (l0.length : Int)) = false := decide_eq_false c16
        clear c16
        simp only [Option.some.injEq, Prod.mk.injEq] at H
        obtain ⟨rfl, rfl⟩ := H
        go_wp2
        go_ret2
        exact ⟨_, wE, Kd.R_lower (show Kd.R (Kd.int .i64) 2 _ W0.heap.size _ _ _ from rR HO_10.out) hBL.out.size, hBL.out.trans (Below.mono (show Below W0.heap.size W0 _ from bB) hBL.out.size)⟩
    ·
     replace c12 := Bool.eq_false_iff.mpr c12
     subst c12
     have H1 : (some (([] : List Int), 2)) = some (r1, r2) := by rw [if_neg (show ¬ (false = true) by decide)] at H; exact H
     clear H
     have H := H1
     clear H1
     simp only [Option.some.injEq, Prod.mk.injEq] at H
     obtain ⟨rfl, rfl⟩ := H
     go_enter Tryz.func29, Tryz.ntmps29
     go_upto_region 1 with fail
     obtain ⟨W0, hW0⟩ : ∃ W0, W0 = (w.alloc (.cells #[.int .i64 a2] 2)).alloc (.cells #[.int .i64 a3] 2) := ⟨_, rfl⟩
     obtain ⟨g1, hg1⟩ : ∃ g1, g1 = w.heap.size := ⟨_, rfl⟩
     obtain ⟨g2, hg2⟩ : ∃ g2, g2 = w.heap.size + 1 := ⟨_, rfl⟩
     have hBL : Aside0 (Below w.heap.size w W0) := ⟨by rw [hW0]; exact below_alloc (below_alloc (Below.refl _ _) _) _⟩
     have b1_ : W0.heap[g1]? = some (.cells #[.int .i64 a2] 2 (0, 0)) := by rw [hW0, hg1]; exact (Below.heap_alloc _ _ _ (by simp)).trans (heap_alloc_new w _)
     have b2_ : W0.heap[g2]? = some (.cells #[.int .i64 a3] 2 (0, 0)) := by rw [hW0, hg2]; have := heap_alloc_new (w.alloc (.cells #[.int .i64 a2] 2)) (.cells #[.int .i64 a3] 2); simpa using this
     have BX : Aside0 (W0.cell? ⟨g1, 0, none⟩ = some (.int .i64 a2)) := ⟨(cell_of_row _ _ 0 _ _ (0, 0) b1_).trans rfl⟩
     have BY : Aside0 (W0.cell? ⟨g2, 0, none⟩ = some (.int .i64 a3)) := ⟨(cell_of_row _ _ 0 _ _ (0, 0) b2_).trans rfl⟩
     have r0_ : Kd.C k43 W0 A0 l0.length l0 := by rw [hW0]; exact Kd.C_alloc (Kd.C_alloc HR0.out _) _
     rw [← hW0, ← hg2, ← hg1]
     clear hW0 hg1 hg2 b1_ b2_ HB HR0
     have HR0 := Aside0.mk r0_
     have HB := Aside0.mk (Below.refl W0.heap.size W0)
     clear r0_
     go_wp2_with (first | ((with_reducible refine gate_callee (f := 18) rfl ?_); refine goesL_ (some 14) rfl rfl Tryz.func18 (by kernel_rfl) rfl #[.slice A0 l0.length c0] rfl aA ?_; (with_reducible refine (impl_ValidWeather.calls k _ _ l0 true _ ?side1 ?side2 A5.out).mono ?_); (case side1 => repeat (first | exact HR0.out | (with_reducible refine Kd.C_alloc ?_ _) | (with_reducible refine Kd.C_drewN ?_ _) | (with_reducible refine Kd.C_drew ?_))); (case side2 => exact HC0.out); rintro e w28 ⟨rfl, hb⟩; refine ⟨_, rfl, ?_⟩; have bx_ := (hb.cell (World.block_lt_of_cell? _ _ BX.out)).trans BX.out; have by_ := (hb.cell (World.block_lt_of_cell? _ _ BY.out)).trans BY.out; have n0_ := Aside0.mk (below_step bB hb); clear HB; have HB := n0_; clear n0_; (try clear hb); (try clear hb2); (try clear hk); (try clear hi)) | ((with_reducible refine gate_callee (f := 40) rfl ?_); refine goesL_ (some 18) rfl rfl Tryz.func40 (by kernel_rfl) rfl #[.int .i64 a1, .int .i64 1, .int .i64 30] rfl aA ?_; (with_reducible refine (impl_within.calls a1 1 30 true _ A7.out).mono ?_); rintro e w' ⟨rfl, ⟨nd, rfl⟩⟩; refine ⟨_, rfl, ?_⟩) | (go_at_call 40; (with_reducible refine (impl_within.calls a2 0 50 true _ A9.out).mono ?_); rintro e w' ⟨rfl, ⟨nd, rfl⟩⟩) | (go_at_call 40; (with_reducible refine (impl_within.calls a3 0 40 false _ A11.out).mono ?_); rintro e w' ⟨rfl, ⟨nd, rfl⟩⟩))
     go_ret2
     exact ⟨_, wE, by first | exact Kd.R_nil _ _ _ _ _ | exact Kd.N_nil _ _ _ _ _ | exact Kd.V_nil _ _ _ _ _ | exact Kd.Q_nil _ _ _ _ _ | exact Kd.S_nil _ _ _ _ _, hBL.out.trans (Below.mono (show Below W0.heap.size W0 _ from bB) hBL.out.size)⟩
   ·
    replace c10 := Bool.eq_false_iff.mpr c10
    subst c10
    have H1 : (some (([] : List Int), 2)) = some (r1, r2) := by rw [if_neg (show ¬ (false = true) by decide)] at H; exact H
    clear H
    have H := H1
    clear H1
    simp only [Option.some.injEq, Prod.mk.injEq] at H
    obtain ⟨rfl, rfl⟩ := H
    go_enter Tryz.func29, Tryz.ntmps29
    go_upto_region 1 with fail
    obtain ⟨W0, hW0⟩ : ∃ W0, W0 = (w.alloc (.cells #[.int .i64 a2] 2)).alloc (.cells #[.int .i64 a3] 2) := ⟨_, rfl⟩
    obtain ⟨g1, hg1⟩ : ∃ g1, g1 = w.heap.size := ⟨_, rfl⟩
    obtain ⟨g2, hg2⟩ : ∃ g2, g2 = w.heap.size + 1 := ⟨_, rfl⟩
    have hBL : Aside0 (Below w.heap.size w W0) := ⟨by rw [hW0]; exact below_alloc (below_alloc (Below.refl _ _) _) _⟩
    have b1_ : W0.heap[g1]? = some (.cells #[.int .i64 a2] 2 (0, 0)) := by rw [hW0, hg1]; exact (Below.heap_alloc _ _ _ (by simp)).trans (heap_alloc_new w _)
    have b2_ : W0.heap[g2]? = some (.cells #[.int .i64 a3] 2 (0, 0)) := by rw [hW0, hg2]; have := heap_alloc_new (w.alloc (.cells #[.int .i64 a2] 2)) (.cells #[.int .i64 a3] 2); simpa using this
    have BX : Aside0 (W0.cell? ⟨g1, 0, none⟩ = some (.int .i64 a2)) := ⟨(cell_of_row _ _ 0 _ _ (0, 0) b1_).trans rfl⟩
    have BY : Aside0 (W0.cell? ⟨g2, 0, none⟩ = some (.int .i64 a3)) := ⟨(cell_of_row _ _ 0 _ _ (0, 0) b2_).trans rfl⟩
    have r0_ : Kd.C k43 W0 A0 l0.length l0 := by rw [hW0]; exact Kd.C_alloc (Kd.C_alloc HR0.out _) _
    rw [← hW0, ← hg2, ← hg1]
    clear hW0 hg1 hg2 b1_ b2_ HB HR0
    have HR0 := Aside0.mk r0_
    have HB := Aside0.mk (Below.refl W0.heap.size W0)
    clear r0_
    go_wp2_with (first | ((with_reducible refine gate_callee (f := 18) rfl ?_); refine goesL_ (some 14) rfl rfl Tryz.func18 (by kernel_rfl) rfl #[.slice A0 l0.length c0] rfl aA ?_; (with_reducible refine (impl_ValidWeather.calls k _ _ l0 true _ ?side1 ?side2 A5.out).mono ?_); (case side1 => repeat (first | exact HR0.out | (with_reducible refine Kd.C_alloc ?_ _) | (with_reducible refine Kd.C_drewN ?_ _) | (with_reducible refine Kd.C_drew ?_))); (case side2 => exact HC0.out); rintro e w29 ⟨rfl, hb⟩; refine ⟨_, rfl, ?_⟩; have bx_ := (hb.cell (World.block_lt_of_cell? _ _ BX.out)).trans BX.out; have by_ := (hb.cell (World.block_lt_of_cell? _ _ BY.out)).trans BY.out; have n0_ := Aside0.mk (below_step bB hb); clear HB; have HB := n0_; clear n0_; (try clear hb); (try clear hb2); (try clear hk); (try clear hi)) | ((with_reducible refine gate_callee (f := 40) rfl ?_); refine goesL_ (some 18) rfl rfl Tryz.func40 (by kernel_rfl) rfl #[.int .i64 a1, .int .i64 1, .int .i64 30] rfl aA ?_; (with_reducible refine (impl_within.calls a1 1 30 true _ A7.out).mono ?_); rintro e w' ⟨rfl, ⟨nd, rfl⟩⟩; refine ⟨_, rfl, ?_⟩) | (go_at_call 40; (with_reducible refine (impl_within.calls a2 0 50 false _ A9.out).mono ?_); rintro e w' ⟨rfl, ⟨nd, rfl⟩⟩))
    go_ret2
    exact ⟨_, wE, by first | exact Kd.R_nil _ _ _ _ _ | exact Kd.N_nil _ _ _ _ _ | exact Kd.V_nil _ _ _ _ _ | exact Kd.Q_nil _ _ _ _ _ | exact Kd.S_nil _ _ _ _ _, hBL.out.trans (Below.mono (show Below W0.heap.size W0 _ from bB) hBL.out.size)⟩
  ·
   replace c8 := Bool.eq_false_iff.mpr c8
   subst c8
   have H1 : (some (([] : List Int), 2)) = some (r1, r2) := by rw [if_neg (show ¬ (false = true) by decide)] at H; exact H
   clear H
   have H := H1
   clear H1
   simp only [Option.some.injEq, Prod.mk.injEq] at H
   obtain ⟨rfl, rfl⟩ := H
   go_enter Tryz.func29, Tryz.ntmps29
   go_upto_region 1 with fail
   obtain ⟨W0, hW0⟩ : ∃ W0, W0 = (w.alloc (.cells #[.int .i64 a2] 2)).alloc (.cells #[.int .i64 a3] 2) := ⟨_, rfl⟩
   obtain ⟨g1, hg1⟩ : ∃ g1, g1 = w.heap.size := ⟨_, rfl⟩
   obtain ⟨g2, hg2⟩ : ∃ g2, g2 = w.heap.size + 1 := ⟨_, rfl⟩
   have hBL : Aside0 (Below w.heap.size w W0) := ⟨by rw [hW0]; exact below_alloc (below_alloc (Below.refl _ _) _) _⟩
   have b1_ : W0.heap[g1]? = some (.cells #[.int .i64 a2] 2 (0, 0)) := by rw [hW0, hg1]; exact (Below.heap_alloc _ _ _ (by simp)).trans (heap_alloc_new w _)
   have b2_ : W0.heap[g2]? = some (.cells #[.int .i64 a3] 2 (0, 0)) := by rw [hW0, hg2]; have := heap_alloc_new (w.alloc (.cells #[.int .i64 a2] 2)) (.cells #[.int .i64 a3] 2); simpa using this
   have BX : Aside0 (W0.cell? ⟨g1, 0, none⟩ = some (.int .i64 a2)) := ⟨(cell_of_row _ _ 0 _ _ (0, 0) b1_).trans rfl⟩
   have BY : Aside0 (W0.cell? ⟨g2, 0, none⟩ = some (.int .i64 a3)) := ⟨(cell_of_row _ _ 0 _ _ (0, 0) b2_).trans rfl⟩
   have r0_ : Kd.C k43 W0 A0 l0.length l0 := by rw [hW0]; exact Kd.C_alloc (Kd.C_alloc HR0.out _) _
   rw [← hW0, ← hg2, ← hg1]
   clear hW0 hg1 hg2 b1_ b2_ HB HR0
   have HR0 := Aside0.mk r0_
   have HB := Aside0.mk (Below.refl W0.heap.size W0)
   clear r0_
   go_wp2_with (first | ((with_reducible refine gate_callee (f := 18) rfl ?_); refine goesL_ (some 14) rfl rfl Tryz.func18 (by kernel_rfl) rfl #[.slice A0 l0.length c0] rfl aA ?_; (with_reducible refine (impl_ValidWeather.calls k _ _ l0 true _ ?side1 ?side2 A5.out).mono ?_); (case side1 => repeat (first | exact HR0.out | (with_reducible refine Kd.C_alloc ?_ _) | (with_reducible refine Kd.C_drewN ?_ _) | (with_reducible refine Kd.C_drew ?_))); (case side2 => exact HC0.out); rintro e w30 ⟨rfl, hb⟩; refine ⟨_, rfl, ?_⟩; have bx_ := (hb.cell (World.block_lt_of_cell? _ _ BX.out)).trans BX.out; have by_ := (hb.cell (World.block_lt_of_cell? _ _ BY.out)).trans BY.out; have n0_ := Aside0.mk (below_step bB hb); clear HB; have HB := n0_; clear n0_; (try clear hb); (try clear hb2); (try clear hk); (try clear hi)) | ((with_reducible refine gate_callee (f := 40) rfl ?_); refine goesL_ (some 18) rfl rfl Tryz.func40 (by kernel_rfl) rfl #[.int .i64 a1, .int .i64 1, .int .i64 30] rfl aA ?_; (with_reducible refine (impl_within.calls a1 1 30 false _ A7.out).mono ?_); rintro e w' ⟨rfl, ⟨nd, rfl⟩⟩; refine ⟨_, rfl, ?_⟩))
   go_ret2
   exact ⟨_, wE, by first | exact Kd.R_nil _ _ _ _ _ | exact Kd.N_nil _ _ _ _ _ | exact Kd.V_nil _ _ _ _ _ | exact Kd.Q_nil _ _ _ _ _ | exact Kd.S_nil _ _ _ _ _, hBL.out.trans (Below.mono (show Below W0.heap.size W0 _ from bB) hBL.out.size)⟩
 ·
  replace c6 := Bool.eq_false_iff.mpr c6
  subst c6
  have H1 : (some (([] : List Int), 1)) = some (r1, r2) := by rw [if_neg (show ¬ (false = true) by decide)] at H; exact H
  clear H
  have H := H1
  clear H1
  simp only [Option.some.injEq, Prod.mk.injEq] at H
  obtain ⟨rfl, rfl⟩ := H
  go_enter Tryz.func29, Tryz.ntmps29
  go_upto_region 1 with fail
  obtain ⟨W0, hW0⟩ : ∃ W0, W0 = (w.alloc (.cells #[.int .i64 a2] 2)).alloc (.cells #[.int .i64 a3] 2) := ⟨_, rfl⟩
  obtain ⟨g1, hg1⟩ : ∃ g1, g1 = w.heap.size := ⟨_, rfl⟩
  obtain ⟨g2, hg2⟩ : ∃ g2, g2 = w.heap.size + 1 := ⟨_, rfl⟩
  have hBL : Aside0 (Below w.heap.size w W0) := ⟨by rw [hW0]; exact below_alloc (below_alloc (Below.refl _ _) _) _⟩
  have b1_ : W0.heap[g1]? = some (.cells #[.int .i64 a2] 2 (0, 0)) := by rw [hW0, hg1]; exact (Below.heap_alloc _ _ _ (by simp)).trans (heap_alloc_new w _)
  have b2_ : W0.heap[g2]? = some (.cells #[.int .i64 a3] 2 (0, 0)) := by rw [hW0, hg2]; have := heap_alloc_new (w.alloc (.cells #[.int .i64 a2] 2)) (.cells #[.int .i64 a3] 2); simpa using this
  have BX : Aside0 (W0.cell? ⟨g1, 0, none⟩ = some (.int .i64 a2)) := ⟨(cell_of_row _ _ 0 _ _ (0, 0) b1_).trans rfl⟩
  have BY : Aside0 (W0.cell? ⟨g2, 0, none⟩ = some (.int .i64 a3)) := ⟨(cell_of_row _ _ 0 _ _ (0, 0) b2_).trans rfl⟩
  have r0_ : Kd.C k43 W0 A0 l0.length l0 := by rw [hW0]; exact Kd.C_alloc (Kd.C_alloc HR0.out _) _
  rw [← hW0, ← hg2, ← hg1]
  clear hW0 hg1 hg2 b1_ b2_ HB HR0
  have HR0 := Aside0.mk r0_
  have HB := Aside0.mk (Below.refl W0.heap.size W0)
  clear r0_
  go_wp2_with (first | ((with_reducible refine gate_callee (f := 18) rfl ?_); refine goesL_ (some 14) rfl rfl Tryz.func18 (by kernel_rfl) rfl #[.slice A0 l0.length c0] rfl aA ?_; (with_reducible refine (impl_ValidWeather.calls k _ _ l0 false _ ?side1 ?side2 A5.out).mono ?_); (case side1 => repeat (first | exact HR0.out | (with_reducible refine Kd.C_alloc ?_ _) | (with_reducible refine Kd.C_drewN ?_ _) | (with_reducible refine Kd.C_drew ?_))); (case side2 => exact HC0.out); rintro e w31 ⟨rfl, hb⟩; refine ⟨_, rfl, ?_⟩; have bx_ := (hb.cell (World.block_lt_of_cell? _ _ BX.out)).trans BX.out; have by_ := (hb.cell (World.block_lt_of_cell? _ _ BY.out)).trans BY.out; have n0_ := Aside0.mk (below_step bB hb); clear HB; have HB := n0_; clear n0_; (try clear hb); (try clear hb2); (try clear hk); (try clear hi)))
  go_ret2
  exact ⟨_, wE, by first | exact Kd.R_nil _ _ _ _ _ | exact Kd.N_nil _ _ _ _ _ | exact Kd.V_nil _ _ _ _ _ | exact Kd.Q_nil _ _ _ _ _ | exact Kd.S_nil _ _ _ _ _, hBL.out.trans (Below.mono (show Below W0.heap.size W0 _ from bB) hBL.out.size)⟩

/-! ### spec_SeedDays: function 30 -/
mutual
def spec_SeedDays.j0 : Nat → List (S43) → Int → Int → Int → List Int → Int → Option (List Int × Int)
 | 0, _, _, _, _, _, _ => none
 | k + 1, x0, x1, x2, x3, x10, x11 => if x11 = 0 then (spec_SeedDays.l0 k x0 x1 x2 x3 x10 0) else (some (x10, x11))
def spec_SeedDays.l0 : Nat → List (S43) → Int → Int → Int → List Int → Int → Option (List Int × Int)
 | 0, _, _, _, _, _, _ => none
 | k + 1, x0, x1, x2, x3, x10, x12 => if (wrap64 (x12 + x1)) ≤ (x0.length : Int) then (spec_SeedDays.l1 k x0 x1 x2 x3 x10 x12 true 0) else (some (x10, 0))
def spec_SeedDays.l1 : Nat → List (S43) → Int → Int → Int → List Int → Int → Bool → Int → Option (List Int × Int)
 | 0, _, _, _, _, _, _, _, _ => none
 | k + 1, x0, x1, x2, x3, x10, x12, x13, x14 => if x14 < x1 then (if 0 ≤ (wrap64 (x12 + x14)) then (if (wrap64 (x12 + x14)) < (x0.length : Int) then (if x13 = true then (if (wrap64 ((rd_T43 x0 (wrap64 (x12 + x14))).f0)) ≥ x2 then (spec_SeedDays.l1 k x0 x1 x2 x3 x10 x12 (decide ((wrap64 ((rd_T43 x0 (wrap64 (x12 + x14))).f1)) ≥ x3)) (wrap64 (x14 + 1))) else (spec_SeedDays.l1 k x0 x1 x2 x3 x10 x12 false (wrap64 (x14 + 1)))) else (spec_SeedDays.l1 k x0 x1 x2 x3 x10 x12 false (wrap64 (x14 + 1)))) else (none)) else (none)) else (if x13 = true then (if x10.length < 17592186044416 then (spec_SeedDays.l0 k x0 x1 x2 x3 (x10 ++ [x12]) (wrap64 (x12 + 1))) else (none)) else (spec_SeedDays.l0 k x0 x1 x2 x3 x10 (wrap64 (x12 + 1))))
end
def spec_SeedDays.f (k : Nat) (l0 : List (S43)) (a1 : Int) (a2 : Int) (a3 : Int) : Option (List Int × Int) := (some (([] : List Int) : List Int)).bind fun y416 => ((spec_l03Span.f a1).bind fun t419 => (if t419 = true then ((spec_l00In.f a2 0 50).bind fun t420 => (if t420 = true then ((spec_l00In.f a3 0 40).bind fun t421 => ((spec_l03Asked.f k l0 t421).bind fun t422 => (spec_SeedDays.j0 k l0 a1 a2 a3 y416 t422))) else ((spec_l03Asked.f k l0 false).bind fun t423 => (spec_SeedDays.j0 k l0 a1 a2 a3 y416 t423)))) else ((spec_l03Asked.f k l0 false).bind fun t424 => (spec_SeedDays.j0 k l0 a1 a2 a3 y416 t424))))
set_option maxHeartbeats 8000000 in
set_option maxRecDepth 100000 in
theorem spec_SeedDays.calls (k : Nat) (A0 : Option Addr) (c0 : Nat) (l0 : List (S43)) (a1 : Int) (a2 : Int) (a3 : Int) (r1 : List Int) (r2 : Int) (w : World) (hr0 : Kd.C k43 w A0 l0.length l0) (hc0 : l0.length ≤ c0) (h : spec_SeedDays.f k l0 a1 a2 a3 = some (r1, r2)) :
  Calls Tryz.prog 30 #[.slice A0 l0.length c0, .int .i64 a1, .int .i64 a2, .int .i64 a3] w fun e w' => ∃ v0_ : Value, e = .returned (.tuple #[v0_, .int .i64 r2]) ∧ Kd.R (Kd.int .i64) 2 w' w.heap.size (fun _ => True) v0_ r1 ∧ Below w.heap.size w w' := by
 have hu43 := Tryz.underlying43
 have HR0 := Aside0.mk hr0
 have HC0 := Aside0.mk hc0
 clear hr0 hc0
 have HB := Aside0.mk (Below.refl w.heap.size w)
 have H : ((some (([] : List Int) : List Int)).bind fun y416 => ((spec_l03Span.f a1).bind fun t419 => (if t419 = true then ((spec_l00In.f a2 0 50).bind fun t420 => (if t420 = true then ((spec_l00In.f a3 0 40).bind fun t421 => ((spec_l03Asked.f k l0 t421).bind fun t422 => (spec_SeedDays.j0 k l0 a1 a2 a3 y416 t422))) else ((spec_l03Asked.f k l0 false).bind fun t423 => (spec_SeedDays.j0 k l0 a1 a2 a3 y416 t423)))) else ((spec_l03Asked.f k l0 false).bind fun t424 => (spec_SeedDays.j0 k l0 a1 a2 a3 y416 t424))))) = some (r1, r2) := h
 clear h
 obtain ⟨y416, hy416⟩ : ∃ y_ : List Int, y_ = (([] : List Int)) := ⟨_, rfl⟩
 replace H : ((spec_l03Span.f a1).bind fun t419 => (if t419 = true then ((spec_l00In.f a2 0 50).bind fun t420 => (if t420 = true then ((spec_l00In.f a3 0 40).bind fun t421 => ((spec_l03Asked.f k l0 t421).bind fun t422 => (spec_SeedDays.j0 k l0 a1 a2 a3 y416 t422))) else ((spec_l03Asked.f k l0 false).bind fun t423 => (spec_SeedDays.j0 k l0 a1 a2 a3 y416 t423)))) else ((spec_l03Asked.f k l0 false).bind fun t424 => (spec_SeedDays.j0 k l0 a1 a2 a3 y416 t424)))) = some (r1, r2) := by first | (rw [hy416]; with_reducible exact H) | (have H2_ := (Option.bind_some _ _).symm.trans H; rw [hy416]; with_reducible exact H2_) | (have H2_ := (Option.bind_some _ _).symm.trans H; with_reducible exact H2_) | with_reducible exact H | (rw [hy416]; exact H) | exact H
 have Ny416 := Aside0.mk hy416
 clear hy416
 have HC5 := Aside0.mk H
 clear H
 go_enter Tryz.func30, Tryz.ntmps30
 go_upto_region 2 with (first | ((with_reducible refine gate_dst (N := 16) rfl ?_); refine Kd.R_lit (Kd.int .i64) _ 2 ?hg (N := 16) ?hd (xs := ([] : List Int)) (inner := []) (ok := fun _ => True) (okp := fun _ => True) ?hr ?hp (fun _ hk => hk) trivial (Below.refl _ _) (Nat.le_refl _) (by simp) ?_; (case hd => rfl); (case hg => rfl); (case hr => first | (go_simp; done) | (go_simp; rfl)); (case hp => exact (Reps.none _ _)); intro v417 w6 ho7 hb hg_ hnew_; clear hg_ hnew_; (first | rw [← Ny416.out] at ho7 | (simp only [Int.reduceToNat] at ho7; rw [← Ny416.out] at ho7)); have n0_ := Aside0.mk (Kd.R_lower ho7 (below_size bB)); have n1_ := Aside0.mk (below_step bB hb); clear HB; have HO418 := n0_; have HB := n1_; clear n0_ n1_; clear hb ho7))
 (try simp only [Act.put, List.setIfInBounds_toArray, List.set_cons_zero, List.set_cons_succ])
 go_cut [11] (fun v11 wc => ∃ (kq : Nat) (x11_4 : Int), v11 = .int .i64 x11_4 ∧ Aside0 (spec_SeedDays.j0 kq l0 a1 a2 a3 y416 x11_4 = some (r1, r2)) ∧ Aside0 (kq ≤ k) ∧ Aside0 (Kd.R (Kd.int .i64) 2 wc w.heap.size (fun _ => True) v417 y416) ∧ Aside0 (Below w.heap.size w wc))
 case first =>
  have H := HC5.out
  clear HC5
  replace H := Option.bind_eq_some_iff.mp H
  obtain ⟨t419, A80, H⟩ := H
  replace H : (if t419 = true then ((spec_l00In.f a2 0 50).bind fun t420 => (if t420 = true then ((spec_l00In.f a3 0 40).bind fun t421 => ((spec_l03Asked.f k l0 t421).bind fun t422 => (spec_SeedDays.j0 k l0 a1 a2 a3 y416 t422))) else ((spec_l03Asked.f k l0 false).bind fun t423 => (spec_SeedDays.j0 k l0 a1 a2 a3 y416 t423)))) else ((spec_l03Asked.f k l0 false).bind fun t424 => (spec_SeedDays.j0 k l0 a1 a2 a3 y416 t424))) = some (r1, r2) := H
  have A8 := Aside0.mk A80
  clear A80
  by_cases c9 : t419 = true
  ·
   subst c9
   have H1 : ((spec_l00In.f a2 0 50).bind fun t420 => (if t420 = true then ((spec_l00In.f a3 0 40).bind fun t421 => ((spec_l03Asked.f k l0 t421).bind fun t422 => (spec_SeedDays.j0 k l0 a1 a2 a3 y416 t422))) else ((spec_l03Asked.f k l0 false).bind fun t423 => (spec_SeedDays.j0 k l0 a1 a2 a3 y416 t423)))) = some (r1, r2) := by rw [if_pos rfl] at H; exact H
   clear H
   have H := H1
   clear H1
   replace H := Option.bind_eq_some_iff.mp H
   obtain ⟨t420, A100, H⟩ := H
   replace H : (if t420 = true then ((spec_l00In.f a3 0 40).bind fun t421 => ((spec_l03Asked.f k l0 t421).bind fun t422 => (spec_SeedDays.j0 k l0 a1 a2 a3 y416 t422))) else ((spec_l03Asked.f k l0 false).bind fun t423 => (spec_SeedDays.j0 k l0 a1 a2 a3 y416 t423))) = some (r1, r2) := H
   have A10 := Aside0.mk A100
   clear A100
   by_cases c11 : t420 = true
   ·
    subst c11
    have H1 : ((spec_l00In.f a3 0 40).bind fun t421 => ((spec_l03Asked.f k l0 t421).bind fun t422 => (spec_SeedDays.j0 k l0 a1 a2 a3 y416 t422))) = some (r1, r2) := by rw [if_pos rfl] at H; exact H
    clear H
    have H := H1
    clear H1
    replace H := Option.bind_eq_some_iff.mp H
    obtain ⟨t421, A120, H⟩ := H
    replace H : ((spec_l03Asked.f k l0 t421).bind fun t422 => (spec_SeedDays.j0 k l0 a1 a2 a3 y416 t422)) = some (r1, r2) := H
    have A12 := Aside0.mk A120
    clear A120
    replace H := Option.bind_eq_some_iff.mp H
    obtain ⟨t422, A130, H⟩ := H
    replace H : (spec_SeedDays.j0 k l0 a1 a2 a3 y416 t422) = some (r1, r2) := H
    have A13 := Aside0.mk A130
    clear A130
    have H' := Aside0.mk H
    clear H
    go_wp2_with (first | ((with_reducible refine gate_callee (f := 61) rfl ?_); refine goesL_ (some 19) rfl rfl Tryz.func61 (by kernel_rfl) rfl #[.int .i64 a1] rfl aA ?_; (with_reducible refine (spec_l03Span.calls a1 true _ A8.out).mono ?_); rintro e w' ⟨rfl, ⟨nd, rfl⟩⟩; refine ⟨_, rfl, ?_⟩) | (go_at_call 59; (with_reducible refine (spec_l00In.calls a2 0 50 true _ A10.out).mono ?_); rintro e w' ⟨rfl, ⟨nd, rfl⟩⟩) | (go_at_call 59; (with_reducible refine (spec_l00In.calls a3 0 40 t421 _ A12.out).mono ?_); rintro e w' ⟨rfl, ⟨nd, rfl⟩⟩) | ((with_reducible refine gate_callee (f := 60) rfl ?_); refine goesL_ (some 28) rfl rfl Tryz.func60 (by kernel_rfl) rfl #[.slice A0 l0.length c0, .bool t421] rfl aA ?_; (with_reducible refine (spec_l03Asked.calls k _ _ l0 t421 t422 _ ?side1 ?side2 A13.out).mono ?_); (case side1 => repeat (first | exact (Kd.C_below HR0.out bB) | (with_reducible refine Kd.C_alloc ?_ _) | (with_reducible refine Kd.C_drewN ?_ _) | (with_reducible refine Kd.C_drew ?_))); (case side2 => exact HC0.out); rintro e w14 ⟨rfl, hb⟩; refine ⟨_, rfl, ?_⟩; have n0_ := Aside0.mk (Kd.R_below (rR HO418.out) hb); have n1_ := Aside0.mk (below_step bB hb); clear HO418; clear HB; have HO418 := n0_; have HB := n1_; clear n0_ n1_; (try clear hb); (try clear hb2); (try clear hk); (try clear hi)))
    go_meet
    case rel => exact ⟨_, (t422), eE, H', ⟨by first | omega | exact Nat.le_refl _⟩, ⟨rR HO418.out⟩, ⟨bB⟩⟩
   ·
    replace c11 := Bool.eq_false_iff.mpr c11
    subst c11
    have H1 : ((spec_l03Asked.f k l0 false).bind fun t423 => (spec_SeedDays.j0 k l0 a1 a2 a3 y416 t423)) = some (r1, r2) := by rw [if_neg (show ¬ (false = true) by decide)] at H; exact H
    clear H
    have H := H1
    clear H1
    replace H := Option.bind_eq_some_iff.mp H
    obtain ⟨t423, A150, H⟩ := H
    replace H : (spec_SeedDays.j0 k l0 a1 a2 a3 y416 t423) = some (r1, r2) := H
    have A15 := Aside0.mk A150
    clear A150
    have H' := Aside0.mk H
    clear H
    go_wp2_with (first | ((with_reducible refine gate_callee (f := 61) rfl ?_); refine goesL_ (some 19) rfl rfl Tryz.func61 (by kernel_rfl) rfl #[.int .i64 a1] rfl aA ?_; (with_reducible refine (spec_l03Span.calls a1 true _ A8.out).mono ?_); rintro e w' ⟨rfl, ⟨nd, rfl⟩⟩; refine ⟨_, rfl, ?_⟩) | (go_at_call 59; (with_reducible refine (spec_l00In.calls a2 0 50 false _ A10.out).mono ?_); rintro e w' ⟨rfl, ⟨nd, rfl⟩⟩) | ((with_reducible refine gate_callee (f := 60) rfl ?_); refine goesL_ (some 28) rfl rfl Tryz.func60 (by kernel_rfl) rfl #[.slice A0 l0.length c0, .bool false] rfl aA ?_; (with_reducible refine (spec_l03Asked.calls k _ _ l0 false t423 _ ?side1 ?side2 A15.out).mono ?_); (case side1 => repeat (first | exact (Kd.C_below HR0.out bB) | (with_reducible refine Kd.C_alloc ?_ _) | (with_reducible refine Kd.C_drewN ?_ _) | (with_reducible refine Kd.C_drew ?_))); (case side2 => exact HC0.out); rintro e w16 ⟨rfl, hb⟩; refine ⟨_, rfl, ?_⟩; have n0_ := Aside0.mk (Kd.R_below (rR HO418.out) hb); have n1_ := Aside0.mk (below_step bB hb); clear HO418; clear HB; have HO418 := n0_; have HB := n1_; clear n0_ n1_; (try clear hb); (try clear hb2); (try clear hk); (try clear hi)))
    go_meet
    case rel => exact ⟨_, (t423), eE, H', ⟨by first | omega | exact Nat.le_refl _⟩, ⟨rR HO418.out⟩, ⟨bB⟩⟩
  ·
   replace c9 := Bool.eq_false_iff.mpr c9
   subst c9
   have H1 : ((spec_l03Asked.f k l0 false).bind fun t424 => (spec_SeedDays.j0 k l0 a1 a2 a3 y416 t424)) = some (r1, r2) := by rw [if_neg (show ¬ (false = true) by decide)] at H; exact H
   clear H
   have H := H1
   clear H1
   replace H := Option.bind_eq_some_iff.mp H
   obtain ⟨t424, A170, H⟩ := H
   replace H : (spec_SeedDays.j0 k l0 a1 a2 a3 y416 t424) = some (r1, r2) := H
   have A17 := Aside0.mk A170
   clear A170
   have H' := Aside0.mk H
   clear H
   go_wp2_with (first | ((with_reducible refine gate_callee (f := 61) rfl ?_); refine goesL_ (some 19) rfl rfl Tryz.func61 (by kernel_rfl) rfl #[.int .i64 a1] rfl aA ?_; (with_reducible refine (spec_l03Span.calls a1 false _ A8.out).mono ?_); rintro e w' ⟨rfl, ⟨nd, rfl⟩⟩; refine ⟨_, rfl, ?_⟩) | ((with_reducible refine gate_callee (f := 60) rfl ?_); refine goesL_ (some 28) rfl rfl Tryz.func60 (by kernel_rfl) rfl #[.slice A0 l0.length c0, .bool false] rfl aA ?_; (with_reducible refine (spec_l03Asked.calls k _ _ l0 false t424 _ ?side1 ?side2 A17.out).mono ?_); (case side1 => repeat (first | exact (Kd.C_below HR0.out bB) | (with_reducible refine Kd.C_alloc ?_ _) | (with_reducible refine Kd.C_drewN ?_ _) | (with_reducible refine Kd.C_drew ?_))); (case side2 => exact HC0.out); rintro e w18 ⟨rfl, hb⟩; refine ⟨_, rfl, ?_⟩; have n0_ := Aside0.mk (Kd.R_below (rR HO418.out) hb); have n1_ := Aside0.mk (below_step bB hb); clear HO418; clear HB; have HO418 := n0_; have HB := n1_; clear n0_ n1_; (try clear hb); (try clear hb2); (try clear hk); (try clear hi)))
   go_meet
   case rel => exact ⟨_, (t424), eE, H', ⟨by first | omega | exact Nat.le_refl _⟩, ⟨rR HO418.out⟩, ⟨bB⟩⟩
 case rest =>
  clear HC5
  try clear c1
  try clear c6
  try clear c9
  try clear c11
  obtain ⟨kq, x11_4, rfl, HA, HJ4, HO_10, HB⟩ := hcut
  cases kq with
  | zero => exact absurd HA.out (by simp [spec_SeedDays.j0])
  | succ kj4 =>
   have H := HA.out
   clear HA
   simp only [spec_SeedDays.j0] at H
   by_cases c19 : x11_4 = 0
   ·
    rw [if_pos c19] at H
    have c19b0 : (x11_4 == 0) = true := beq_iff_eq.mpr c19
    have c19b1 : (x11_4 != 0) = false := bne_eq_false_iff_eq.mpr c19
    clear c19
    have H' := Aside0.mk H
    clear H
    go_wp2
    go_loopg [10, 12] kj4 (fun kq v10 v12 w' => ∃ (x10_2 : List Int) (x12_2 : Int), v12 = .int .i64 x12_2 ∧ Aside0 (spec_SeedDays.l0 kq l0 a1 a2 a3 x10_2 x12_2 = some (r1, r2)) ∧ Aside0 (kq ≤ kj4) ∧ Aside0 (Kd.R (Kd.int .i64) 2 w' w.heap.size (fun _ => True) v10 x10_2) ∧ Aside0 (Below w.heap.size w w'))
    case atStart => exact ⟨(y416), (0), eE, H', ⟨Nat.le_refl _⟩, ⟨rR HO_10.out⟩, ⟨bB⟩⟩
    case round =>
     clear H'
     try clear c1
     try clear c6
     try clear c9
     try clear c11
     try clear c19
     try clear c19b0
     try clear c19b1
     obtain ⟨x10_2, x12_2, rfl, HA, HK2, HO_10, HB⟩ := hrel
     cases gk with
     | zero => exact absurd HA.out (by simp [spec_SeedDays.l0])
     | succ k2 =>
      have H := HA.out
      clear HA
      simp only [spec_SeedDays.l0] at H
      by_cases c20 : (wrap64 (x12_2 + a1)) ≤ (l0.length : Int)
      ·
       rw [if_pos c20] at H
       have c20b0 : decide ((wrap64 (x12_2 + a1)) ≤ (l0.length : Int)) = true := decide_eq_true c20
       clear c20
       have H' := Aside0.mk H
       clear H
       go_wp2
       go_loopg [13, 14] k2 (fun kq v13 v14 w' => ∃ (x13_3 : Bool) (x14_3 : Int), v13 = .bool x13_3 ∧ v14 = .int .i64 x14_3 ∧ Aside0 (spec_SeedDays.l1 kq l0 a1 a2 a3 x10_2 x12_2 x13_3 x14_3 = some (r1, r2)) ∧ Aside0 (kq ≤ k2) ∧ Aside0 (Kd.R (Kd.int .i64) 2 w' w.heap.size (fun _ => True) u10 x10_2) ∧ Aside0 (Below w.heap.size w w'))
       case atStart => exact ⟨(true), (0), eE, eE, H', ⟨Nat.le_refl _⟩, ⟨rR HO_10.out⟩, ⟨bB⟩⟩
       case round =>
        clear H'
        try clear c1
        try clear c2
        try clear c6
        try clear c9
        try clear c11
        try clear c19
        try clear c19b0
        try clear c19b1
        try clear c20
        try clear c20b0
        obtain ⟨x13_3, x14_3, rfl, rfl, HA, HK3, HO_10, HB⟩ := hrel
        cases gk with
        | zero => exact absurd HA.out (by simp [spec_SeedDays.l1])
        | succ k3 =>
         have H := HA.out
         clear HA
         simp only [spec_SeedDays.l1] at H
         by_cases c21 : x14_3 < a1
         ·
          rw [if_pos c21] at H
          have c21b0 : decide (x14_3 < a1) = true := decide_eq_true c21
          clear c21
          obtain ⟨ji22, hji22⟩ : ∃ j_ : Int, (wrap64 (x12_2 + x14_3)) = j_ := ⟨_, rfl⟩
          replace H : (if 0 ≤ (ji22) then (if (ji22) < (l0.length : Int) then (if x13_3 = true then (if (wrap64 ((rd_T43 l0 (ji22)).f0)) ≥ a2 then (spec_SeedDays.l1 k3 l0 a1 a2 a3 x10_2 x12_2 (decide ((wrap64 ((rd_T43 l0 (ji22)).f1)) ≥ a3)) (wrap64 (x14_3 + 1))) else (spec_SeedDays.l1 k3 l0 a1 a2 a3 x10_2 x12_2 false (wrap64 (x14_3 + 1)))) else (spec_SeedDays.l1 k3 l0 a1 a2 a3 x10_2 x12_2 false (wrap64 (x14_3 + 1)))) else (none)) else (none)) = some (r1, r2) := by first | (rw [hji22] at H; exact H) | (simp only [hji22] at H ⊢; exact H)
          have hji22w : (IntKind.i64.wrap (x12_2 + x14_3)) = ji22 := (i64_w _).trans hji22
          by_cases c23 : 0 ≤ (ji22)
          ·
           rw [if_pos c23] at H
           have c23b0 : decide (0 ≤ (ji22)) = true := decide_eq_true c23
           clear c23
           by_cases c24 : (ji22) < (l0.length : Int)
           ·
            rw [if_pos c24] at H
            have c24b0 : decide ((ji22) < (l0.length : Int)) = true := decide_eq_true c24
            clear c24
            by_cases c25 : x13_3 = true
            ·
             subst c25
             have H1 : (if (wrap64 ((rd_T43 l0 (ji22)).f0)) ≥ a2 then (spec_SeedDays.l1 k3 l0 a1 a2 a3 x10_2 x12_2 (decide ((wrap64 ((rd_T43 l0 (ji22)).f1)) ≥ a3)) (wrap64 (x14_3 + 1))) else (spec_SeedDays.l1 k3 l0 a1 a2 a3 x10_2 x12_2 false (wrap64 (x14_3 + 1)))) = some (r1, r2) := by rw [if_pos rfl] at H; exact H
             clear H
             have H := H1
             clear H1
             by_cases c26 : (wrap64 ((rd_T43 l0 (ji22)).f0)) ≥ a2
             ·
              rw [if_pos c26] at H
              have c26b0 : decide (a2 ≤ (wrap64 ((rd_T43 l0 (ji22)).f0))) = true := decide_eq_true c26
              clear c26
              have H' := Aside0.mk H
              clear H
              have p425 : 0 ≤ ((ji22) : Int) := dD
              have q425 : (ji22) < (l0.length : Int) := dD
              obtain ⟨ad425, e425, hx425_0, hx425_1⟩ := at_T43 HR0.out (ji22) p425 q425
              cases e425
              replace hx425_0 := (HB.out.cell (World.block_lt_of_cell? w _ hx425_0)).trans hx425_0
              replace hx425_1 := (HB.out.cell (World.block_lt_of_cell? w _ hx425_1)).trans hx425_1
              replace p425 := eq_true p425
              replace q425 := eq_true q425
              go_wp2_with (first | ((with_reducible refine gate_dst (N := 15) rfl ?_); refine box_event ?hg (N := 15) ?hd (cs := #[.int .i8 0, .int .i8 0]) (t := 43) ?hr ?_; (case hd => rfl); (case hg => rfl); (case hr => first | (go_simp; done) | (go_simp; rfl)); intro gb426 hg w27 hbox hb; have n0_ := Aside0.mk (Kd.R_below (rR HO_10.out) hb); have n1_ := Aside0.mk (below_step bB hb); have n2_ := Aside0.mk (hbox); have n3_ := Aside0.mk ((by rw [hg]; exact (below_size bB) : w.heap.size ≤ gb426)); have n4_ := Aside0.mk ((by rw [hg]; exact (below_size bB) : w.heap.size ≤ gb426)); clear HO_10; clear HB; have HO_10 := n0_; have HB := n1_; have BK426 := n2_; have GW426 := n3_; have GE426 := n4_; clear n0_ n1_ n2_ n3_ n4_; clear hb hbox hg; have hcz28_0 : w27.cell? ⟨gb426, 0, none⟩ = some (.int .i8 0) := (blk_cell BK426.out 0).trans rfl; have hcz28_1 : w27.cell? ⟨gb426, 1, none⟩ = some (.int .i8 0) := (blk_cell BK426.out 1).trans rfl; have hfz28_0 := blk_frozen BK426.out 0; have hfz28_1 := blk_frozen BK426.out 1))
              go_roundg k3
              case measure => have := HJ4.out; have := HK2.out; have := HK3.out; omega
              case rel => exact ⟨(decide ((wrap64 ((rd_T43 l0 (ji22)).f1)) ≥ a3)), (wrap64 (x14_3 + 1)), (by first | rfl | (simp; done) | (simp only [← hji22] <;> (first | rfl | simp)) | (simp [*]; done)), eE, H', ⟨by have := HJ4.out; have := HK2.out; have := HK3.out; omega⟩, ⟨by (with_reducible repeat (first | apply Kd.R_alloc | apply Kd.R_drewN | apply Kd.R_drew)); exact Kd.R_mono (Kd.R_far (p := ⟨gb426, 1, none⟩) (Kd.R_far (p := ⟨gb426, 0, none⟩) (Kd.R_types HO_10.out BK426.out (by decide)) (fun _ hk => hk.2) (.int .i8 ((rd_T43 l0 (ji22)).f0))) (fun _ hk => hk.2) (.int .i8 ((rd_T43 l0 (ji22)).f1))) (fun _ hk => trivial)⟩, ⟨by repeat (first | (with_reducible first | exact HB.out | apply below_alloc | apply pw_below_drewN | apply below_drew1 | refine below_set ?_ GE426.out) | exact HB.out)⟩⟩
             ·
              rw [if_neg c26] at H
              have c26b0 : decide (a2 ≤ (wrap64 ((rd_T43 l0 (ji22)).f0))) = false := decide_eq_false c26
              clear c26
              have H' := Aside0.mk H
              clear H
              have p425 : 0 ≤ ((ji22) : Int) := dD
              have q425 : (ji22) < (l0.length : Int) := dD
              obtain ⟨ad425, e425, hx425_0, hx425_1⟩ := at_T43 HR0.out (ji22) p425 q425
              cases e425
              replace hx425_0 := (HB.out.cell (World.block_lt_of_cell? w _ hx425_0)).trans hx425_0
              replace hx425_1 := (HB.out.cell (World.block_lt_of_cell? w _ hx425_1)).trans hx425_1
              replace p425 := eq_true p425
              replace q425 := eq_true q425
              go_wp2_with (first | ((with_reducible refine gate_dst (N := 15) rfl ?_); refine box_event ?hg (N := 15) ?hd (cs := #[.int .i8 0, .int .i8 0]) (t := 43) ?hr ?_; (case hd => rfl); (case hg => rfl); (case hr => first | (go_simp; done) | (go_simp; rfl)); intro gb426 hg w29 hbox hb; have n0_ := Aside0.mk (Kd.R_below (rR HO_10.out) hb); have n1_ := Aside0.mk (below_step bB hb); have n2_ := Aside0.mk (hbox); have n3_ := Aside0.mk ((by rw [hg]; exact (below_size bB) : w.heap.size ≤ gb426)); have n4_ := Aside0.mk ((by rw [hg]; exact (below_size bB) : w.heap.size ≤ gb426)); clear HO_10; clear HB; have HO_10 := n0_; have HB := n1_; have BK426 := n2_; have GW426 := n3_; have GE426 := n4_; clear n0_ n1_ n2_ n3_ n4_; clear hb hbox hg; have hcz30_0 : w29.cell? ⟨gb426, 0, none⟩ = some (.int .i8 0) := (blk_cell BK426.out 0).trans rfl; have hcz30_1 : w29.cell? ⟨gb426, 1, none⟩ = some (.int .i8 0) := (blk_cell BK426.out 1).trans rfl; have hfz30_0 := blk_frozen BK426.out 0; have hfz30_1 := blk_frozen BK426.out 1))
              go_roundg k3
              case measure => have := HJ4.out; have := HK2.out; have := HK3.out; omega
              case rel => exact ⟨(false), (wrap64 (x14_3 + 1)), eE, eE, H', ⟨by have := HJ4.out; have := HK2.out; have := HK3.out; omega⟩, ⟨by (with_reducible repeat (first | apply Kd.R_alloc | apply Kd.R_drewN | apply Kd.R_drew)); exact Kd.R_mono (Kd.R_far (p := ⟨gb426, 1, none⟩) (Kd.R_far (p := ⟨gb426, 0, none⟩) (Kd.R_types HO_10.out BK426.out (by decide)) (fun _ hk => hk.2) (.int .i8 ((rd_T43 l0 (ji22)).f0))) (fun _ hk => hk.2) (.int .i8 ((rd_T43 l0 (ji22)).f1))) (fun _ hk => trivial)⟩, ⟨by repeat (first | (with_reducible first | exact HB.out | apply below_alloc | apply pw_below_drewN | apply below_drew1 | refine below_set ?_ GE426.out) | exact HB.out)⟩⟩
            ·
             replace c25 := Bool.eq_false_iff.mpr c25
             subst c25
             have H1 : (spec_SeedDays.l1 k3 l0 a1 a2 a3 x10_2 x12_2 false (wrap64 (x14_3 + 1))) = some (r1, r2) := by rw [if_neg (show ¬ (false = true) by decide)] at H; exact H
             clear H
             have H := H1
             clear H1
             have H' := Aside0.mk H
             clear H
             have p425 : 0 ≤ ((ji22) : Int) := dD
             have q425 : (ji22) < (l0.length : Int) := dD
             obtain ⟨ad425, e425, hx425_0, hx425_1⟩ := at_T43 HR0.out (ji22) p425 q425
             cases e425
             replace hx425_0 := (HB.out.cell (World.block_lt_of_cell? w _ hx425_0)).trans hx425_0
             replace hx425_1 := (HB.out.cell (World.block_lt_of_cell? w _ hx425_1)).trans hx425_1
             replace p425 := eq_true p425
             replace q425 := eq_true q425
             go_wp2_with (first | ((with_reducible refine gate_dst (N := 15) rfl ?_); refine box_event ?hg (N := 15) ?hd (cs := #[.int .i8 0, .int .i8 0]) (t := 43) ?hr ?_; (case hd => rfl); (case hg => rfl); (case hr => first | (go_simp; done) | (go_simp; rfl)); intro gb426 hg w31 hbox hb; have n0_ := Aside0.mk (Kd.R_below (rR HO_10.out) hb); have n1_ := Aside0.mk (below_step bB hb); have n2_ := Aside0.mk (hbox); have n3_ := Aside0.mk ((by rw [hg]; exact (below_size bB) : w.heap.size ≤ gb426)); have n4_ := Aside0.mk ((by rw [hg]; exact (below_size bB) : w.heap.size ≤ gb426)); clear HO_10; clear HB; have HO_10 := n0_; have HB := n1_; have BK426 := n2_; have GW426 := n3_; have GE426 := n4_; clear n0_ n1_ n2_ n3_ n4_; clear hb hbox hg; have hcz32_0 : w31.cell? ⟨gb426, 0, none⟩ = some (.int .i8 0) := (blk_cell BK426.out 0).trans rfl; have hcz32_1 : w31.cell? ⟨gb426, 1, none⟩ = some (.int .i8 0) := (blk_cell BK426.out 1).trans rfl; have hfz32_0 := blk_frozen BK426.out 0; have hfz32_1 := blk_frozen BK426.out 1))
             go_roundg k3
             case measure => have := HJ4.out; have := HK2.out; have := HK3.out; omega
             case rel => exact ⟨(false), (wrap64 (x14_3 + 1)), eE, eE, H', ⟨by have := HJ4.out; have := HK2.out; have := HK3.out; omega⟩, ⟨by (with_reducible repeat (first | apply Kd.R_alloc | apply Kd.R_drewN | apply Kd.R_drew)); exact Kd.R_mono (Kd.R_far (p := ⟨gb426, 1, none⟩) (Kd.R_far (p := ⟨gb426, 0, none⟩) (Kd.R_types HO_10.out BK426.out (by decide)) (fun _ hk => hk.2) (.int .i8 ((rd_T43 l0 (ji22)).f0))) (fun _ hk => hk.2) (.int .i8 ((rd_T43 l0 (ji22)).f1))) (fun _ hk => trivial)⟩, ⟨by repeat (first | (with_reducible first | exact HB.out | apply below_alloc | apply pw_below_drewN | apply below_drew1 | refine below_set ?_ GE426.out) | exact HB.out)⟩⟩
           ·
            rw [if_neg c24] at H
            exact absurd H (by simp)
          ·
           rw [if_neg c23] at H
           exact absurd H (by simp)
         ·
          rw [if_neg c21] at H
          have c21b0 : decide (x14_3 < a1) = false := decide_eq_false c21
          clear c21
          by_cases c33 : x13_3 = true
          ·
           subst c33
           have H1 : (if x10_2.length < 17592186044416 then (spec_SeedDays.l0 k3 l0 a1 a2 a3 (x10_2 ++ [x12_2]) (wrap64 (x12_2 + 1))) else (none)) = some (r1, r2) := by rw [if_pos rfl] at H; exact H
           clear H
           have H := H1
           clear H1
           by_cases c34 : x10_2.length < 17592186044416
           ·
            rw [if_pos c34] at H
            have LMc34 := Aside0.mk c34
            clear c34
            obtain ⟨y427, hy427⟩ : ∃ y_ : List Int, y_ = (x10_2 ++ [x12_2]) := ⟨_, rfl⟩
            replace H : (spec_SeedDays.l0 k3 l0 a1 a2 a3 y427 (wrap64 (x12_2 + 1))) = some (r1, r2) := by first | (rw [hy427]; with_reducible exact H) | (have H2_ := (Option.bind_some _ _).symm.trans H; rw [hy427]; with_reducible exact H2_) | (have H2_ := (Option.bind_some _ _).symm.trans H; with_reducible exact H2_) | with_reducible exact H | (rw [hy427]; exact H) | exact H
            have Ny427 := Aside0.mk hy427
            clear hy427
            have H' := Aside0.mk H
            clear H
            go_wp2_with (first | ((with_reducible refine gate_builtin (b := .append) (xs := #[.tmp 68, .tmp 70]) rfl ?_); at_builtin; refine Kd.R_append (Kd.int .i64) (w0 := w) w.heap.size rfl (.tmp 68) (.tmp 70) 26 2 (.int .i64 0) 8 rfl Tryz.underlying26 info2 rfl (by decide) (by omega) u10 x10_2 x12_2 [.int .i64 x12_2] (fun _ => True) (fun _ => False) rfl rfl ?aP (fun _ hk => hk.elim) ?aF ?aO ?aB ?aS ?aL ?_; (case aP => exact rfl); (case aB => exact bB); (case aF => exact (fun _ _ => trivial)); (case aO => exact (rR HO_10.out)); (case aS => exact (below_size bB)); (case aL => have := LMc34.out; omega); intro v428 w35 ho hb hg hat; rw [← Ny427.out] at ho; have n0_ := Aside0.mk (hb); have n1_ := Aside0.mk (ho); clear HB; clear HO_10; have HB := n0_; have HO429 := n1_; clear n0_ n1_; clear ho hb hg hat))
            go_roundg k3
            case measure => have := HJ4.out; have := HK2.out; have := HK3.out; omega
            case rel => exact ⟨(y427), (wrap64 (x12_2 + 1)), eE, H', ⟨by have := HJ4.out; have := HK2.out; have := HK3.out; omega⟩, ⟨rR HO429.out⟩, ⟨bB⟩⟩
           ·
            rw [if_neg c34] at H
            exact absurd H (by simp)
          ·
           replace c33 := Bool.eq_false_iff.mpr c33
           subst c33
           have H1 : (spec_SeedDays.l0 k3 l0 a1 a2 a3 x10_2 (wrap64 (x12_2 + 1))) = some (r1, r2) := by rw [if_neg (show ¬ (false = true) by decide)] at H; exact H
           clear H
           have H := H1
           clear H1
           have H' := Aside0.mk H
           clear H
           go_wp2
           go_roundg k3
           case measure => have := HJ4.out; have := HK2.out; have := HK3.out; omega
           case rel => exact ⟨(x10_2), (wrap64 (x12_2 + 1)), eE, H', ⟨by have := HJ4.out; have := HK2.out; have := HK3.out; omega⟩, ⟨rR HO_10.out⟩, ⟨bB⟩⟩
      ·
       rw [if_neg c20] at H
       have c20b0 : decide ((wrap64 (x12_2 + a1)) ≤ (l0.length : Int)) = false := decide_eq_false c20
       clear c20
       simp only [Option.some.injEq, Prod.mk.injEq] at H
       obtain ⟨rfl, rfl⟩ := H
       go_wp2
       go_ret2
       exact ⟨_, wE, rR HO_10.out, bB⟩
   ·
    rw [if_neg c19] at H
    have c19b0 : (x11_4 == 0) = false := beq_eq_false_iff_ne.mpr c19
    have c19b1 : (x11_4 != 0) = true := bne_iff_ne.mpr c19
    simp only [Option.some.injEq, Prod.mk.injEq] at H
    obtain ⟨rfl, rfl⟩ := H
    go_wp2
    go_ret2
    exact ⟨_, wE, rR HO_10.out, bB⟩

/-! ### impl_Weather_63: function 63, by hand in its test for nil -/
def impl_Weather_63.f (l0 : List (S43)) : Option ((List (S43))) := (some (([] : List (S43)) : List (S43))).bind fun y147 => (if y147.length + l0.length < 70368744177664 then (some (y147 ++ l0)) else (none))
set_option maxHeartbeats 8000000 in
set_option maxRecDepth 100000 in
theorem impl_Weather_63.calls (A0 : Option Addr) (c0 : Nat) (l0 : List (S43)) (r : List (S43)) (w : World) (hr0 : Kd.C k43 w A0 l0.length l0) (hc0 : l0.length ≤ c0) (h : impl_Weather_63.f l0 = some r) :
  Calls Tryz.prog 63 #[.slice A0 l0.length c0] w fun e w' => ∃ v0_ : Value, e = .returned (v0_) ∧ Kd.R k43 43 w' w.heap.size (fun _ => True) v0_ r ∧ Below w.heap.size w w' := by
 have HR0 := Aside0.mk hr0
 have HC0 := Aside0.mk hc0
 clear hr0 hc0
 have HB := Aside0.mk (Below.refl w.heap.size w)
 have H : ((some (([] : List (S43)) : List (S43))).bind fun y147 => (if y147.length + l0.length < 70368744177664 then (some (y147 ++ l0)) else (none))) = some r := h
 clear h
 obtain ⟨y147, hy147⟩ : ∃ y_ : List (S43), y_ = (([] : List (S43))) := ⟨_, rfl⟩
 replace H : (if y147.length + l0.length < 70368744177664 then (some (y147 ++ l0)) else (none)) = some r := by first | (rw [hy147]; with_reducible exact H) | (have H2_ := (Option.bind_some _ _).symm.trans H; rw [hy147]; with_reducible exact H2_) | (have H2_ := (Option.bind_some _ _).symm.trans H; with_reducible exact H2_) | with_reducible exact H | (rw [hy147]; exact H) | exact H
 have Ny147 := Aside0.mk hy147
 clear hy147
 by_cases c2 : y147.length + l0.length < 70368744177664
 ·
  rw [if_pos c2] at H
  have LMc2 := Aside0.mk c2
  clear c2
  obtain ⟨y150, hy150⟩ : ∃ y_ : List (S43), y_ = (y147 ++ l0) := ⟨_, rfl⟩
  replace H : (some y150) = some r := by first | (rw [hy150]; with_reducible exact H) | (have H2_ := (Option.bind_some _ _).symm.trans H; rw [hy150]; with_reducible exact H2_) | (have H2_ := (Option.bind_some _ _).symm.trans H; with_reducible exact H2_) | with_reducible exact H | (rw [hy150]; exact H) | exact H
  have Ny150 := Aside0.mk hy150
  clear hy150
  obtain rfl := Option.some.inj H
  have qn : ∀ (w : World) (a : Option Addr) (n c n' c' : Nat), (binOp .eql 24 (.slice a n c) (.slice none n' c')).run Tryz.prog w = .ok (.bool a.isNone) w := fun w a n c n' c' => Lib.run_eql_slice_nil w _ _ a n c n' c' Tryz.underlying24
  rcases A0 with _ | a0_
  ·
   obtain rfl : l0 = [] := by
    have hk := HR0.out
    cases l0 with
    | nil => rfl
    | cons x xs => obtain ⟨ad, e, _⟩ := hk.2.2 (by simp); cases e
   go_enter Tryz.func63, Tryz.ntmps63
   go_wp2
   go_ret
   refine ⟨_, rfl, ?_, Below.refl _ _⟩
   have e := Ny150.out
   rw [Ny147.out] at e
   have e2 : y150 = [] := e
   rw [e2]
   exact Kd.R_nil _ _ _ _ _
  ·
   go_enter Tryz.func63, Tryz.ntmps63
   go_wp2_with (first | ((with_reducible refine gate_dst (N := 5) rfl ?_); refine Kd.R_lit k43 _ 43 ?hg (N := 5) ?hd (xs := ([] : List (S43))) (inner := []) (ok := fun _ => True) (okp := fun _ => True) ?hr ?hp (fun _ hk => hk) trivial (Below.refl _ _) (Nat.le_refl _) (by simp) ?_; (case hd => rfl); (case hg => rfl); (case hr => first | (go_simp; done) | (go_simp; rfl)); (case hp => exact (Reps.none _ _)); intro v148 w3 ho4 hb hg_ hnew_; clear hg_ hnew_; (first | rw [← Ny147.out] at ho4 | (simp only [Int.reduceToNat] at ho4; rw [← Ny147.out] at ho4)); have n0_ := Aside0.mk (Kd.R_lower ho4 (below_size bB)); have n1_ := Aside0.mk (below_step bB hb); clear HB; have HO149 := n0_; have HB := n1_; clear n0_ n1_; clear hb ho4) | ((with_reducible refine gate_builtin (b := .append) (xs := #[.tmp 5, .tmp 6]) rfl ?_); at_builtin; refine Kd.R_append_rows k43 (w0 := w) w.heap.size rfl (.tmp 5) (.tmp 6) 24 43 (.agg #[(.int .i8 0), (.int .i8 0)]) 2 rfl Tryz.underlying24 info43 rfl (by decide) (by omega) v148 y147 l0 _ _ _ (fun _ => True) (fun _ => False) rfl rfl ?aO ?aR (fun _ _ h => h) (fun _ h => h.elim) ?aF ?aB ?aS ?aL ?_; (case aR => repeat (first | exact (Kd.C_below HR0.out HB.out) | (with_reducible refine Kd.C_alloc ?_ _) | (with_reducible refine Kd.C_drewN ?_ _) | (with_reducible refine Kd.C_drew ?_))); (case aB => exact bB); (case aF => exact (fun _ _ => trivial)); (case aO => exact (rR HO149.out)); (case aS => exact (below_size bB)); (case aL => have := LMc2.out; omega); intro v151 w5 ho hb hg hat; rw [← Ny150.out] at ho; have n0_ := Aside0.mk (hb); have n1_ := Aside0.mk (ho); clear HB; clear HO149; have HB := n0_; have HO152 := n1_; clear n0_ n1_; clear ho hb hg hat))
   go_ret
   exact ⟨_, wE, rR HO152.out, bB⟩
 ·
  rw [if_neg c2] at H
  exact absurd H (by simp)

end Go.Proofs.YtibpndhcijmhpaaGreatDoor.QG
