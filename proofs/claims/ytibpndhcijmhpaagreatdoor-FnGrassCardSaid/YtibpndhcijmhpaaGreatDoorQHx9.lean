/- Walks: printed by a program of this session; nothing here is trusted. -/
import Derived.Test.YtibpndhcijmhpaaGreatDoorQHx0
import Derived.Test.YtibpndhcijmhpaaGreatDoorQHx2
import Derived.Test.YtibpndhcijmhpaaGreatDoorQHx3
import Derived.Test.YtibpndhcijmhpaaGreatDoorQHx5
namespace Go.Proofs.YtibpndhcijmhpaaGreatDoor.QG
open Go.RowKit Go.Proofs.YtibpndhcijmhpaaGreatDoorW.PrintWords Go.Proofs.YtibpndhcijmhpaaGreatDoorW.PrintLast Go.Proofs.YtibpndhcijmhpaaGreatDoorW.PrintMore
attribute [local go_sem] max2_int min2_int max_two min_two max_three min_three max_four min_four   -- for this text's walks alone
set_option linter.unusedVariables false
set_option linter.unusedSimpArgs false

/-! ### spec_DriestSpell: function 26 -/
def spec_DriestSpell.l0 : Nat → List (S43) → Int → Int → Int → Int → Option (Int × Int × Int)
 | 0, _, _, _, _, _ => none
 | k + 1, x0, x5, x6, x7, x8 => if x8 < (x0.length : Int) then (if 0 ≤ x8 then (if ((rd_T43 x0 x8).f0) > 0 then (if 0 > x6 then (spec_DriestSpell.l0 k x0 (wrap64 ((wrap64 (x8 - 0)) + 1)) 0 0 (wrap64 (x8 + 1))) else (spec_DriestSpell.l0 k x0 x5 x6 0 (wrap64 (x8 + 1)))) else (if (wrap64 (x7 + 1)) > x6 then (spec_DriestSpell.l0 k x0 (wrap64 ((wrap64 (x8 - (wrap64 (x7 + 1)))) + 1)) (wrap64 (x7 + 1)) (wrap64 (x7 + 1)) (wrap64 (x8 + 1))) else (spec_DriestSpell.l0 k x0 x5 x6 (wrap64 (x7 + 1)) (wrap64 (x8 + 1))))) else (none)) else (if x6 = 0 then (some (0, 0, 6)) else (some (x5, x6, 0)))
def spec_DriestSpell.f (k : Nat) (l0 : List (S43)) : Option (Int × Int × Int) := (spec_l03Ok.f k l0).bind fun t387 => (if t387 = true then (spec_DriestSpell.l0 k l0 0 0 0 0) else (some (0, 0, 1)))
set_option maxHeartbeats 8000000 in
set_option maxRecDepth 100000 in
theorem spec_DriestSpell.calls (k : Nat) (A0 : Option Addr) (c0 : Nat) (l0 : List (S43)) (r1 : Int) (r2 : Int) (r3 : Int) (w : World) (hr0 : Kd.C k43 w A0 l0.length l0) (hc0 : l0.length ≤ c0) (h : spec_DriestSpell.f k l0 = some (r1, r2, r3)) :
  Calls Tryz.prog 26 #[.slice A0 l0.length c0] w fun e w' => e = .returned (.tuple #[.int .i64 r1, .int .i64 r2, .int .i64 r3]) ∧ Below w.heap.size w w' := by
 have HR0 := Aside0.mk hr0
 have HC0 := Aside0.mk hc0
 clear hr0 hc0
 have HB := Aside0.mk (Below.refl w.heap.size w)
 have H : ((spec_l03Ok.f k l0).bind fun t387 => (if t387 = true then (spec_DriestSpell.l0 k l0 0 0 0 0) else (some (0, 0, 1)))) = some (r1, r2, r3) := h
 clear h
 replace H := Option.bind_eq_some_iff.mp H
 obtain ⟨t387, A20, H⟩ := H
 replace H : (if t387 = true then (spec_DriestSpell.l0 k l0 0 0 0 0) else (some (0, 0, 1))) = some (r1, r2, r3) := H
 have A2 := Aside0.mk A20
 clear A20
 by_cases c3 : t387 = true
 ·
  subst c3
  have H1 : (spec_DriestSpell.l0 k l0 0 0 0 0) = some (r1, r2, r3) := by rw [if_pos rfl] at H; exact H
  clear H
  have H := H1
  clear H1
  have H' := Aside0.mk H
  clear H
  go_enter Tryz.func26, Tryz.ntmps26
  go_wp2_with (first | ((with_reducible refine gate_callee (f := 44) rfl ?_); refine goesL_ (some 10) rfl rfl Tryz.func44 (by kernel_rfl) rfl #[.slice A0 l0.length c0] rfl aA ?_; (with_reducible refine (spec_l03Ok.calls k _ _ l0 true _ ?side1 ?side2 A2.out).mono ?_); (case side1 => repeat (first | exact HR0.out | (with_reducible refine Kd.C_alloc ?_ _) | (with_reducible refine Kd.C_drewN ?_ _) | (with_reducible refine Kd.C_drew ?_))); (case side2 => exact HC0.out); rintro e w4 ⟨rfl, hb⟩; refine ⟨_, rfl, ?_⟩; have n0_ := Aside0.mk (below_step bB hb); clear HB; have HB := n0_; clear n0_; (try clear hb); (try clear hb2); (try clear hk); (try clear hi)))
  go_loopg [5, 6, 7, 8] k (fun kq v5 v6 v7 v8 w' => ∃ (x5_1 : Int) (x6_1 : Int) (x7_1 : Int) (x8_1 : Int), v5 = .int .i64 x5_1 ∧ v6 = .int .i64 x6_1 ∧ v7 = .int .i64 x7_1 ∧ v8 = .int .i64 x8_1 ∧ Aside0 (spec_DriestSpell.l0 kq l0 x5_1 x6_1 x7_1 x8_1 = some (r1, r2, r3)) ∧ Aside0 (kq ≤ k) ∧ Aside0 (Below w.heap.size w w'))
  case atStart => exact ⟨(0), (0), (0), (0), eE, eE, eE, eE, H', ⟨Nat.le_refl _⟩, ⟨bB⟩⟩
  case round =>
   clear H'
   try clear c3
   try clear c4
   obtain ⟨x5_1, x6_1, x7_1, x8_1, rfl, rfl, rfl, rfl, HA, HK1, HB⟩ := hrel
   cases gk with
   | zero => exact absurd HA.out (by simp [spec_DriestSpell.l0])
   | succ k1 =>
    have H := HA.out
    clear HA
    simp only [spec_DriestSpell.l0] at H
    by_cases c5 : x8_1 < (l0.length : Int)
    ·
     rw [if_pos c5] at H
     have c5b0 : decide (x8_1 < (l0.length : Int)) = true := decide_eq_true c5
     clear c5
     by_cases c6 : 0 ≤ x8_1
     ·
      rw [if_pos c6] at H
      have c6b0 : decide (0 ≤ x8_1) = true := decide_eq_true c6
      clear c6
      by_cases c7 : ((rd_T43 l0 x8_1).f0) > 0
      ·
       rw [if_pos c7] at H
       have c7b0 : decide (0 < ((rd_T43 l0 x8_1).f0)) = true := decide_eq_true c7
       clear c7
       by_cases c8 : 0 > x6_1
       ·
        rw [if_pos c8] at H
        have c8b0 : decide (x6_1 < 0) = true := decide_eq_true c8
        clear c8
        have H' := Aside0.mk H
        clear H
        have p388 : 0 ≤ (x8_1 : Int) := dD
        have q388 : x8_1 < (l0.length : Int) := dD
        obtain ⟨ad388, e388, hx388_0, hx388_1⟩ := at_T43 HR0.out x8_1 p388 q388
        cases e388
        replace hx388_0 := (HB.out.cell (World.block_lt_of_cell? w _ hx388_0)).trans hx388_0
        replace hx388_1 := (HB.out.cell (World.block_lt_of_cell? w _ hx388_1)).trans hx388_1
        replace p388 := eq_true p388
        replace q388 := eq_true q388
        go_wp2
        go_roundg k1
        case measure => have := HK1.out; omega
        case rel => exact ⟨(wrap64 ((wrap64 (x8_1 - 0)) + 1)), (0), (0), (wrap64 (x8_1 + 1)), eE, eE, eE, eE, H', ⟨by have := HK1.out; omega⟩, ⟨bB⟩⟩
       ·
        rw [if_neg c8] at H
        have c8b0 : decide (x6_1 < 0) = false := decide_eq_false c8
        clear c8
        have H' := Aside0.mk H
        clear H
        have p388 : 0 ≤ (x8_1 : Int) := dD
        have q388 : x8_1 < (l0.length : Int) := dD
        obtain ⟨ad388, e388, hx388_0, hx388_1⟩ := at_T43 HR0.out x8_1 p388 q388
        cases e388
        replace hx388_0 := (HB.out.cell (World.block_lt_of_cell? w _ hx388_0)).trans hx388_0
        replace hx388_1 := (HB.out.cell (World.block_lt_of_cell? w _ hx388_1)).trans hx388_1
        replace p388 := eq_true p388
        replace q388 := eq_true q388
        go_wp2
        go_roundg k1
        case measure => have := HK1.out; omega
        case rel => exact ⟨(x5_1), (x6_1), (0), (wrap64 (x8_1 + 1)), eE, eE, eE, eE, H', ⟨by have := HK1.out; omega⟩, ⟨bB⟩⟩
      ·
       rw [if_neg c7] at H
       have c7b0 : decide (0 < ((rd_T43 l0 x8_1).f0)) = false := decide_eq_false c7
       clear c7
       by_cases c9 : (wrap64 (x7_1 + 1)) > x6_1
       ·
        rw [if_pos c9] at H
        have c9b0 : decide (x6_1 < (wrap64 (x7_1 + 1))) = true := decide_eq_true c9
        clear c9
        have H' := Aside0.mk H
        clear H
        have p388 : 0 ≤ (x8_1 : Int) := dD
        have q388 : x8_1 < (l0.length : Int) := dD
        obtain ⟨ad388, e388, hx388_0, hx388_1⟩ := at_T43 HR0.out x8_1 p388 q388
        cases e388
        replace hx388_0 := (HB.out.cell (World.block_lt_of_cell? w _ hx388_0)).trans hx388_0
        replace hx388_1 := (HB.out.cell (World.block_lt_of_cell? w _ hx388_1)).trans hx388_1
        replace p388 := eq_true p388
        replace q388 := eq_true q388
        go_wp2
        go_roundg k1
        case measure => have := HK1.out; omega
        case rel => exact ⟨(wrap64 ((wrap64 (x8_1 - (wrap64 (x7_1 + 1)))) + 1)), (wrap64 (x7_1 + 1)), (wrap64 (x7_1 + 1)), (wrap64 (x8_1 + 1)), eE, eE, eE, eE, H', ⟨by have := HK1.out; omega⟩, ⟨bB⟩⟩
       ·
        rw [if_neg c9] at H
        have c9b0 : decide (x6_1 < (wrap64 (x7_1 + 1))) = false := decide_eq_false c9
        clear c9
        have H' := Aside0.mk H
        clear H
        have p388 : 0 ≤ (x8_1 : Int) := dD
        have q388 : x8_1 < (l0.length : Int) := dD
        obtain ⟨ad388, e388, hx388_0, hx388_1⟩ := at_T43 HR0.out x8_1 p388 q388
        cases e388
        replace hx388_0 := (HB.out.cell (World.block_lt_of_cell? w _ hx388_0)).trans hx388_0
        replace hx388_1 := (HB.out.cell (World.block_lt_of_cell? w _ hx388_1)).trans hx388_1
        replace p388 := eq_true p388
        replace q388 := eq_true q388
        go_wp2
        go_roundg k1
        case measure => have := HK1.out; omega
        case rel => exact ⟨(x5_1), (x6_1), (wrap64 (x7_1 + 1)), (wrap64 (x8_1 + 1)), eE, eE, eE, eE, H', ⟨by have := HK1.out; omega⟩, ⟨bB⟩⟩
     ·
      rw [if_neg c6] at H
      exact absurd H (by simp)
    ·
     rw [if_neg c5] at H
     have c5b0 : decide (x8_1 < (l0.length : Int)) = false := decide_eq_false c5
     clear c5
     by_cases c10 : x6_1 = 0
     ·
      rw [if_pos c10] at H
      have c10b0 : (x6_1 == 0) = true := beq_iff_eq.mpr c10
      have c10b1 : (x6_1 != 0) = false := bne_eq_false_iff_eq.mpr c10
      clear c10
      simp only [Option.some.injEq, Prod.mk.injEq] at H
      obtain ⟨rfl, rfl, rfl⟩ := H
      go_wp2
      go_ret3
      exact ⟨wE, bB⟩
     ·
      rw [if_neg c10] at H
      have c10b0 : (x6_1 == 0) = false := beq_eq_false_iff_ne.mpr c10
      have c10b1 : (x6_1 != 0) = true := bne_iff_ne.mpr c10
      simp only [Option.some.injEq, Prod.mk.injEq] at H
      obtain ⟨rfl, rfl, rfl⟩ := H
      go_wp2
      go_ret3
      exact ⟨wE, bB⟩
 ·
  replace c3 := Bool.eq_false_iff.mpr c3
  subst c3
  have H1 : (some (0, 0, 1)) = some (r1, r2, r3) := by rw [if_neg (show ¬ (false = true) by decide)] at H; exact H
  clear H
  have H := H1
  clear H1
  simp only [Option.some.injEq, Prod.mk.injEq] at H
  obtain ⟨rfl, rfl, rfl⟩ := H
  go_enter Tryz.func26, Tryz.ntmps26
  go_wp2_with (first | ((with_reducible refine gate_callee (f := 44) rfl ?_); refine goesL_ (some 10) rfl rfl Tryz.func44 (by kernel_rfl) rfl #[.slice A0 l0.length c0] rfl aA ?_; (with_reducible refine (spec_l03Ok.calls k _ _ l0 false _ ?side1 ?side2 A2.out).mono ?_); (case side1 => repeat (first | exact HR0.out | (with_reducible refine Kd.C_alloc ?_ _) | (with_reducible refine Kd.C_drewN ?_ _) | (with_reducible refine Kd.C_drew ?_))); (case side2 => exact HC0.out); rintro e w11 ⟨rfl, hb⟩; refine ⟨_, rfl, ?_⟩; have n0_ := Aside0.mk (below_step bB hb); clear HB; have HB := n0_; clear n0_; (try clear hb); (try clear hb2); (try clear hk); (try clear hi)))
  go_ret3
  exact ⟨wE, bB⟩

/-! ### impl_WettestDays: function 27 -/
mutual
def impl_WettestDays.l0 : Nat → List (S43) → Int → Int → Int → Int → Option (Int × Int × Int)
 | 0, _, _, _, _, _ => none
 | k + 1, x0, x1, x7, x8, x9 => if (wrap64 (x9 + x1)) ≤ (x0.length : Int) then (if 0 ≤ x9 then (if x9 ≤ (wrap64 (x9 + x1)) then ((some ((x0.take ((wrap64 (x9 + x1)) : Int).toNat).drop (x9 : Int).toNat : List (S43))).bind fun y391 => (impl_WettestDays.l1 k x0 x1 x7 x8 x9 0 y391 (y391.length : Int) 0)) else (none)) else (none)) else (if x8 < 0 then (some (0, 0, 6)) else (some (x7, x8, 0)))
def impl_WettestDays.l1 : Nat → List (S43) → Int → Int → Int → Int → Int → List (S43) → Int → Int → Option (Int × Int × Int)
 | 0, _, _, _, _, _, _, _, _, _ => none
 | k + 1, x0, x1, x7, x8, x9, x10, x34, x35, x36 => if x36 < x35 then (if 0 ≤ x36 then (if x36 < (x34.length : Int) then (impl_WettestDays.l1 k x0 x1 x7 x8 x9 (wrap64 (x10 + (wrap64 ((rd_T43 x34 x36).f0)))) x34 x35 (wrap64 (x36 + 1))) else (none)) else (none)) else (if x10 > x8 then (impl_WettestDays.l0 k x0 x1 x9 x10 (wrap64 (x9 + 1))) else (impl_WettestDays.l0 k x0 x1 x7 x8 (wrap64 (x9 + 1))))
end
def impl_WettestDays.f (k : Nat) (l0 : List (S43)) (a1 : Int) : Option (Int × Int × Int) := (impl_ValidWeather.f k l0).bind fun t389 => (if t389 = true then ((impl_within.f a1 1 30).bind fun t390 => (if t390 = true then (impl_WettestDays.l0 k l0 a1 0 (-1) 0) else (some (0, 0, 2)))) else (some (0, 0, 1)))
set_option maxHeartbeats 8000000 in
set_option maxRecDepth 100000 in
theorem impl_WettestDays.calls (k : Nat) (A0 : Option Addr) (c0 : Nat) (l0 : List (S43)) (a1 : Int) (r1 : Int) (r2 : Int) (r3 : Int) (w : World) (hr0 : Kd.C k43 w A0 l0.length l0) (hc0 : l0.length ≤ c0) (h : impl_WettestDays.f k l0 a1 = some (r1, r2, r3)) :
  Calls Tryz.prog 27 #[.slice A0 l0.length c0, .int .i64 a1] w fun e w' => e = .returned (.tuple #[.int .i64 r1, .int .i64 r2, .int .i64 r3]) ∧ Below w.heap.size w w' := by
 have hu43 := Tryz.underlying43
 have HR0 := Aside0.mk hr0
 have HC0 := Aside0.mk hc0
 clear hr0 hc0
 have HB := Aside0.mk (Below.refl w.heap.size w)
 have H : ((impl_ValidWeather.f k l0).bind fun t389 => (if t389 = true then ((impl_within.f a1 1 30).bind fun t390 => (if t390 = true then (impl_WettestDays.l0 k l0 a1 0 (-1) 0) else (some (0, 0, 2)))) else (some (0, 0, 1)))) = some (r1, r2, r3) := h
 clear h
 replace H := Option.bind_eq_some_iff.mp H
 obtain ⟨t389, A30, H⟩ := H
 replace H : (if t389 = true then ((impl_within.f a1 1 30).bind fun t390 => (if t390 = true then (impl_WettestDays.l0 k l0 a1 0 (-1) 0) else (some (0, 0, 2)))) else (some (0, 0, 1))) = some (r1, r2, r3) := H
 have A3 := Aside0.mk A30
 clear A30
 by_cases c4 : t389 = true
 ·
  subst c4
  have H1 : ((impl_within.f a1 1 30).bind fun t390 => (if t390 = true then (impl_WettestDays.l0 k l0 a1 0 (-1) 0) else (some (0, 0, 2)))) = some (r1, r2, r3) := by rw [if_pos rfl] at H; exact H
  clear H
  have H := H1
  clear H1
  replace H := Option.bind_eq_some_iff.mp H
  obtain ⟨t390, A50, H⟩ := H
  replace H : (if t390 = true then (impl_WettestDays.l0 k l0 a1 0 (-1) 0) else (some (0, 0, 2))) = some (r1, r2, r3) := H
  have A5 := Aside0.mk A50
  clear A50
  by_cases c6 : t390 = true
  ·
   subst c6
   have H1 : (impl_WettestDays.l0 k l0 a1 0 (-1) 0) = some (r1, r2, r3) := by rw [if_pos rfl] at H; exact H
   clear H
   have H := H1
   clear H1
   have H' := Aside0.mk H
   clear H
   go_enter Tryz.func27, Tryz.ntmps27
   go_wp2_with (first | ((with_reducible refine gate_callee (f := 18) rfl ?_); refine goesL_ (some 15) rfl rfl Tryz.func18 (by kernel_rfl) rfl #[.slice A0 l0.length c0] rfl aA ?_; (with_reducible refine (impl_ValidWeather.calls k _ _ l0 true _ ?side1 ?side2 A3.out).mono ?_); (case side1 => repeat (first | exact HR0.out | (with_reducible refine Kd.C_alloc ?_ _) | (with_reducible refine Kd.C_drewN ?_ _) | (with_reducible refine Kd.C_drew ?_))); (case side2 => exact HC0.out); rintro e w7 ⟨rfl, hb⟩; refine ⟨_, rfl, ?_⟩; have n0_ := Aside0.mk (below_step bB hb); clear HB; have HB := n0_; clear n0_; (try clear hb); (try clear hb2); (try clear hk); (try clear hi)) | ((with_reducible refine gate_callee (f := 40) rfl ?_); refine goesL_ (some 19) rfl rfl Tryz.func40 (by kernel_rfl) rfl #[.int .i64 a1, .int .i64 1, .int .i64 30] rfl aA ?_; (with_reducible refine (impl_within.calls a1 1 30 true _ A5.out).mono ?_); rintro e w' ⟨rfl, ⟨nd, rfl⟩⟩; refine ⟨_, rfl, ?_⟩))
   go_loopg [7, 8, 9] k (fun kq v7 v8 v9 w' => ∃ (x7_1 : Int) (x8_1 : Int) (x9_1 : Int), v7 = .int .i64 x7_1 ∧ v8 = .int .i64 x8_1 ∧ v9 = .int .i64 x9_1 ∧ Aside0 (impl_WettestDays.l0 kq l0 a1 x7_1 x8_1 x9_1 = some (r1, r2, r3)) ∧ Aside0 (kq ≤ k) ∧ Aside0 (Below w.heap.size w w'))
   case atStart => exact ⟨(0), ((-1)), (0), eE, eE, eE, H', ⟨Nat.le_refl _⟩, ⟨bB⟩⟩
   case round =>
    clear H'
    try clear c1
    try clear c4
    try clear c6
    obtain ⟨x7_1, x8_1, x9_1, rfl, rfl, rfl, HA, HK1, HB⟩ := hrel
    cases gk with
    | zero => exact absurd HA.out (by simp [impl_WettestDays.l0])
    | succ k1 =>
     have H := HA.out
     clear HA
     simp only [impl_WettestDays.l0] at H
     by_cases c8 : (wrap64 (x9_1 + a1)) ≤ (l0.length : Int)
     ·
      rw [if_pos c8] at H
      have c8b0 : decide ((wrap64 (x9_1 + a1)) ≤ (l0.length : Int)) = true := decide_eq_true c8
      clear c8
      by_cases c9 : 0 ≤ x9_1
      ·
       rw [if_pos c9] at H
       have c9b0 := eq_true c9
       have c9b1 : decide (0 ≤ x9_1) = true := decide_eq_true c9
       clear c9
       by_cases c10 : x9_1 ≤ (wrap64 (x9_1 + a1))
       ·
        rw [if_pos c10] at H
        have c10b0 := eq_true c10
        have c10b1 : decide (x9_1 ≤ (wrap64 (x9_1 + a1))) = true := decide_eq_true c10
        have c11b0 := eq_true (dD : (wrap64 (x9_1 + a1)) ≤ (l0.length : Int))
        obtain ⟨y391, hy391⟩ : ∃ y_ : List (S43), y_ = ((l0.take ((wrap64 (x9_1 + a1)) : Int).toNat).drop (x9_1 : Int).toNat) := ⟨_, rfl⟩
        replace H : (impl_WettestDays.l1 k1 l0 a1 x7_1 x8_1 x9_1 0 y391 (y391.length : Int) 0) = some (r1, r2, r3) := by first | (rw [hy391]; with_reducible exact H) | (have H2_ := (Option.bind_some _ _).symm.trans H; rw [hy391]; with_reducible exact H2_) | (have H2_ := (Option.bind_some _ _).symm.trans H; with_reducible exact H2_) | with_reducible exact H | (rw [hy391]; exact H) | exact H
        have Ny391 := Aside0.mk hy391
        clear hy391
        have H' := Aside0.mk H
        clear H
        have q12 : ((wrap64 (x9_1 + a1)) : Int) ≤ ((l0.length : Int) : Int) := dD
        obtain ⟨i012, hi012, _, hsz12, _⟩ := info_parts info43
        have hroom12 : l0.length ≤ c0 := HC0.out
        have hC12 : Kd.C k43 _ A0 l0.length l0 := HR0.out
        have ql12 : (x9_1 : Int) ≤ ((wrap64 (x9_1 + a1)) : Int) := dD
        have q012 : (0 : Int) ≤ (x9_1 : Int) := dD
        have hcut12 := cut_mid (P := Tryz.prog) 24 43 .i64 .i64 Tryz.underlying24 hi012 2 hsz12 A0 l0.length c0 x9_1 (wrap64 (x9_1 + a1)) q012 ql12 q12 hroom12
        have hr12 := Kd.C_mid (lo := (x9_1 : Int).toNat) (hi := ((wrap64 (x9_1 + a1)) : Int).toNat) (c := c0) hC12 (by omega) (by omega) hroom12
        obtain ⟨A12, hA12⟩ : ∃ A1, A1 = (if c0 = (x9_1 : Int).toNat then A0 else (A0 : Option Addr).map (·.add ((x9_1 : Int).toNat * 2))) := ⟨_, rfl⟩
        obtain ⟨c12, hc12⟩ : ∃ c1, c1 = c0 - (x9_1 : Int).toNat := ⟨_, rfl⟩
        have hy12 : y391.length = ((wrap64 (x9_1 + a1)) : Int).toNat - (x9_1 : Int).toNat := (by rw [Ny391.out, List.length_drop, List.length_take] <;> omega)
        rw [show ((l0).take ((wrap64 (x9_1 + a1)) : Int).toNat).drop (x9_1 : Int).toNat = y391 from Ny391.out.symm] at hr12
        replace hr12 : Kd.C k43 _ A12 y391.length y391 := (by rw [hA12]; exact hr12)
        rw [← hy12, ← hA12, ← hc12] at hcut12
        have HR394 := Aside0.mk hr12
        have HC394 := Aside0.mk (show y391.length ≤ c12 from by rw [hy12, hc12]; exact Nat.sub_le_sub_right (Nat.le_trans (by omega) hroom12) _)
        clear hr12 hC12 hroom12 hi012 hsz12 hc12
        have KY12 := Aside0.mk hy12
        have KA12 := Aside0.mk hA12
        clear hy12 hA12
        replace q12 := eq_true q12
        go_wp2
        go_loopg [10, 36] k1 (fun kq v10 v36 w' => ∃ (x10_2 : Int) (x36_2 : Int), v10 = .int .i64 x10_2 ∧ v36 = .int .i64 x36_2 ∧ Aside0 (impl_WettestDays.l1 kq l0 a1 x7_1 x8_1 x9_1 x10_2 y391 (y391.length : Int) x36_2 = some (r1, r2, r3)) ∧ Aside0 (kq ≤ k1) ∧ Aside0 (Below w.heap.size w w'))
        case atStart => exact ⟨(0), (0), eE, eE, H', ⟨Nat.le_refl _⟩, ⟨bB⟩⟩
        case round =>
         clear H'
         try clear c1
         try clear c4
         try clear c6
         try clear c8
         try clear c8b0
         try clear c9
         try clear c9b0
         try clear c9b1
         try clear c10
         try clear c10b0
         try clear c10b1
         try clear c11
         try clear c11b0
         try clear c12
         try clear q12
         try clear q012
         obtain ⟨x10_2, x36_2, rfl, rfl, HA, HK2, HB⟩ := hrel
         cases gk with
         | zero => exact absurd HA.out (by simp [impl_WettestDays.l1])
         | succ k2 =>
          have H := HA.out
          clear HA
          simp only [impl_WettestDays.l1] at H
          by_cases c13 : x36_2 < (y391.length : Int)
          ·
           rw [if_pos c13] at H
           have c13b0 : decide (x36_2 < (y391.length : Int)) = true := decide_eq_true c13
           clear c13
           by_cases c14 : 0 ≤ x36_2
           ·
            rw [if_pos c14] at H
            have c14b0 : decide (0 ≤ x36_2) = true := decide_eq_true c14
            clear c14
            by_cases c15 : x36_2 < (y391.length : Int)
            ·
             rw [if_pos c15] at H
             have c15b0 : decide (x36_2 < (y391.length : Int)) = true := decide_eq_true c15
             clear c15
             have H' := Aside0.mk H
             clear H
             have p395 : 0 ≤ (x36_2 : Int) := dD
             have q395 : x36_2 < (y391.length : Int) := dD
             obtain ⟨ad395, e395, hx395_0, hx395_1⟩ := at_T43 HR394.out x36_2 p395 q395
             cases e395
             replace hx395_0 := (HB.out.cell (World.block_lt_of_cell? w _ hx395_0)).trans hx395_0
             replace hx395_1 := (HB.out.cell (World.block_lt_of_cell? w _ hx395_1)).trans hx395_1
             replace p395 := eq_true p395
             replace q395 := eq_true q395
             go_wp2_with (first | ((with_reducible refine gate_dst (N := 12) rfl ?_); refine box_event ?hg (N := 12) ?hd (cs := #[.int .i8 0, .int .i8 0]) (t := 43) ?hr ?_; (case hd => rfl); (case hg => rfl); (case hr => first | (go_simp; done) | (go_simp; rfl)); intro gb396 hg w16 hbox hb; have n0_ := Aside0.mk (below_step bB hb); have n1_ := Aside0.mk (hbox); have n2_ := Aside0.mk ((by rw [hg]; exact (below_size bB) : w.heap.size ≤ gb396)); have n3_ := Aside0.mk ((by rw [hg]; exact (below_size bB) : w.heap.size ≤ gb396)); clear HB; have HB := n0_; have BK396 := n1_; have GW396 := n2_; have GE396 := n3_; clear n0_ n1_ n2_ n3_; clear hb hbox hg; have hcz17_0 : w16.cell? ⟨gb396, 0, none⟩ = some (.int .i8 0) := (blk_cell BK396.out 0).trans rfl; have hcz17_1 : w16.cell? ⟨gb396, 1, none⟩ = some (.int .i8 0) := (blk_cell BK396.out 1).trans rfl; have hfz17_0 := blk_frozen BK396.out 0; have hfz17_1 := blk_frozen BK396.out 1))
             go_roundg k2
             case measure => have := HK1.out; have := HK2.out; omega
             case rel => exact ⟨(wrap64 (x10_2 + (wrap64 ((rd_T43 y391 x36_2).f0)))), (wrap64 (x36_2 + 1)), eE, eE, H', ⟨by have := HK1.out; have := HK2.out; omega⟩, ⟨by repeat (first | (with_reducible first | exact HB.out | apply below_alloc | apply pw_below_drewN | apply below_drew1 | refine below_set ?_ GE396.out) | exact HB.out)⟩⟩
            ·
             rw [if_neg c15] at H
             exact absurd H (by simp)
           ·
            rw [if_neg c14] at H
            exact absurd H (by simp)
          ·
           rw [if_neg c13] at H
           have c13b0 : decide (x36_2 < (y391.length : Int)) = false := decide_eq_false c13
           clear c13
           by_cases c18 : x10_2 > x8_1
           ·
            rw [if_pos c18] at H
            have c18b0 : decide (x8_1 < x10_2) = true := decide_eq_true c18
            clear c18
            have H' := Aside0.mk H
            clear H
            go_wp2
            go_roundg k2
            case measure => have := HK1.out; have := HK2.out; omega
            case rel => exact ⟨(x9_1), (x10_2), (wrap64 (x9_1 + 1)), eE, eE, eE, H', ⟨by have := HK1.out; have := HK2.out; omega⟩, ⟨bB⟩⟩
           ·
            rw [if_neg c18] at H
            have c18b0 : decide (x8_1 < x10_2) = false := decide_eq_false c18
            clear c18
            have H' := Aside0.mk H
            clear H
            go_wp2
            go_roundg k2
            case measure => have := HK1.out; have := HK2.out; omega
            case rel => exact ⟨(x7_1), (x8_1), (wrap64 (x9_1 + 1)), eE, eE, eE, H', ⟨by have := HK1.out; have := HK2.out; omega⟩, ⟨bB⟩⟩
       ·
        rw [if_neg c10] at H
        exact absurd H (by simp)
      ·
       rw [if_neg c9] at H
       exact absurd H (by simp)
     ·
      rw [if_neg c8] at H
      have c8b0 : decide ((wrap64 (x9_1 + a1)) ≤ (l0.length : Int)) = false := decide_eq_false c8
      clear c8
      by_cases c19 : x8_1 < 0
      ·
       rw [if_pos c19] at H
       have c19b0 : decide (x8_1 < 0) = true := decide_eq_true c19
       clear c19
       simp only [Option.some.injEq, Prod.mk.injEq] at H
       obtain ⟨rfl, rfl, rfl⟩ := H
       go_wp2
       go_ret3
       exact ⟨wE, bB⟩
      ·
       rw [if_neg c19] at H
       have c19b0 : decide (x8_1 < 0) = false := decide_eq_false c19
       clear c19
       simp only [Option.some.injEq, Prod.mk.injEq] at H
       obtain ⟨rfl, rfl, rfl⟩ := H
       go_wp2
       go_ret3
       exact ⟨wE, bB⟩
  ·
   replace c6 := Bool.eq_false_iff.mpr c6
   subst c6
   have H1 : (some (0, 0, 2)) = some (r1, r2, r3) := by rw [if_neg (show ¬ (false = true) by decide)] at H; exact H
   clear H
   have H := H1
   clear H1
   simp only [Option.some.injEq, Prod.mk.injEq] at H
   obtain ⟨rfl, rfl, rfl⟩ := H
   go_enter Tryz.func27, Tryz.ntmps27
   go_wp2_with (first | ((with_reducible refine gate_callee (f := 18) rfl ?_); refine goesL_ (some 15) rfl rfl Tryz.func18 (by kernel_rfl) rfl #[.slice A0 l0.length c0] rfl aA ?_; (with_reducible refine (impl_ValidWeather.calls k _ _ l0 true _ ?side1 ?side2 A3.out).mono ?_); (case side1 => repeat (first | exact HR0.out | (with_reducible refine Kd.C_alloc ?_ _) | (with_reducible refine Kd.C_drewN ?_ _) | (with_reducible refine Kd.C_drew ?_))); (case side2 => exact HC0.out); rintro e w20 ⟨rfl, hb⟩; refine ⟨_, rfl, ?_⟩; have n0_ := Aside0.mk (below_step bB hb); clear HB; have HB := n0_; clear n0_; (try clear hb); (try clear hb2); (try clear hk); (try clear hi)) | ((with_reducible refine gate_callee (f := 40) rfl ?_); refine goesL_ (some 19) rfl rfl Tryz.func40 (by kernel_rfl) rfl #[.int .i64 a1, .int .i64 1, .int .i64 30] rfl aA ?_; (with_reducible refine (impl_within.calls a1 1 30 false _ A5.out).mono ?_); rintro e w' ⟨rfl, ⟨nd, rfl⟩⟩; refine ⟨_, rfl, ?_⟩))
   go_ret3
   exact ⟨wE, bB⟩
 ·
  replace c4 := Bool.eq_false_iff.mpr c4
  subst c4
  have H1 : (some (0, 0, 1)) = some (r1, r2, r3) := by rw [if_neg (show ¬ (false = true) by decide)] at H; exact H
  clear H
  have H := H1
  clear H1
  simp only [Option.some.injEq, Prod.mk.injEq] at H
  obtain ⟨rfl, rfl, rfl⟩ := H
  go_enter Tryz.func27, Tryz.ntmps27
  go_wp2_with (first | ((with_reducible refine gate_callee (f := 18) rfl ?_); refine goesL_ (some 15) rfl rfl Tryz.func18 (by kernel_rfl) rfl #[.slice A0 l0.length c0] rfl aA ?_; (with_reducible refine (impl_ValidWeather.calls k _ _ l0 false _ ?side1 ?side2 A3.out).mono ?_); (case side1 => repeat (first | exact HR0.out | (with_reducible refine Kd.C_alloc ?_ _) | (with_reducible refine Kd.C_drewN ?_ _) | (with_reducible refine Kd.C_drew ?_))); (case side2 => exact HC0.out); rintro e w21 ⟨rfl, hb⟩; refine ⟨_, rfl, ?_⟩; have n0_ := Aside0.mk (below_step bB hb); clear HB; have HB := n0_; clear n0_; (try clear hb); (try clear hb2); (try clear hk); (try clear hi)))
  go_ret3
  exact ⟨wE, bB⟩

/-! ### spec_l03Span: function 61 -/
def spec_l03Span.f (a0 : Int) : Option (Bool) := (spec_l00In.f a0 1 30).bind fun t397 => (some t397)
set_option maxHeartbeats 8000000 in
set_option maxRecDepth 100000 in
theorem spec_l03Span.calls (a0 : Int) (r : Bool) (w : World) (h : spec_l03Span.f a0 = some r) :
  Calls Tryz.prog 61 #[.int .i64 a0] w fun e w' => e = .returned (.bool r) ∧ Drawn0 w w' := by
 have H : ((spec_l00In.f a0 1 30).bind fun t397 => (some t397)) = some r := h
 clear h
 replace H := Option.bind_eq_some_iff.mp H
 obtain ⟨t397, A20, H⟩ := H
 replace H : (some t397) = some r := H
 have A2 := Aside0.mk A20
 clear A20
 obtain rfl := Option.some.inj H
 go_enter Tryz.func61, Tryz.ntmps61
 go_wp2_with (first | ((with_reducible refine gate_callee (f := 59) rfl ?_); refine goesL_ (some 4) rfl rfl Tryz.func59 (by kernel_rfl) rfl #[.int .i64 a0, .int .i64 1, .int .i64 30] rfl aA ?_; (with_reducible refine (spec_l00In.calls a0 1 30 t397 _ A2.out).mono ?_); rintro e w' ⟨rfl, ⟨nd, rfl⟩⟩; refine ⟨_, rfl, ?_⟩))
 go_ret
 exact ⟨eE, by repeat (first | exact Drawn0.refl _ | apply Drawn0.step)⟩

/-! ### spec_WettestDays: function 28 -/
mutual
def spec_WettestDays.j0 : Nat → List (S43) → Int → Int → Bool → Option (Int × Int × Int)
 | 0, _, _, _, _ => none
 | k + 1, x0, x1, x7, x24 => if x24 = true then (spec_WettestDays.j1 k x0 x1 6) else (spec_WettestDays.j1 k x0 x1 x7)
def spec_WettestDays.j1 : Nat → List (S43) → Int → Int → Option (Int × Int × Int)
 | 0, _, _, _ => none
 | k + 1, x0, x1, x7 => if x7 = 0 then (spec_WettestDays.l0 k x0 x1 0 (-1) 0) else (some (0, 0, x7))
def spec_WettestDays.l0 : Nat → List (S43) → Int → Int → Int → Int → Option (Int × Int × Int)
 | 0, _, _, _, _, _ => none
 | k + 1, x0, x1, x8, x9, x10 => if (wrap64 (x10 + x1)) ≤ (x0.length : Int) then (spec_WettestDays.l1 k x0 x1 x8 x9 x10 0 0) else (some (x8, x9, 0))
def spec_WettestDays.l1 : Nat → List (S43) → Int → Int → Int → Int → Int → Int → Option (Int × Int × Int)
 | 0, _, _, _, _, _, _, _ => none
 | k + 1, x0, x1, x8, x9, x10, x11, x12 => if x12 < x1 then (if 0 ≤ (wrap64 (x10 + x12)) then (if (wrap64 (x10 + x12)) < (x0.length : Int) then (spec_WettestDays.l1 k x0 x1 x8 x9 x10 (wrap64 (x11 + (wrap64 ((rd_T43 x0 (wrap64 (x10 + x12))).f0)))) (wrap64 (x12 + 1))) else (none)) else (none)) else (if x11 > x9 then (spec_WettestDays.l0 k x0 x1 x10 x11 (wrap64 (x10 + 1))) else (spec_WettestDays.l0 k x0 x1 x8 x9 (wrap64 (x10 + 1))))
end
def spec_WettestDays.f (k : Nat) (l0 : List (S43)) (a1 : Int) : Option (Int × Int × Int) := (spec_l03Span.f a1).bind fun t398 => ((spec_l03Asked.f k l0 t398).bind fun t399 => (if t399 = 0 then (spec_WettestDays.j0 k l0 a1 t399 (decide (a1 > (l0.length : Int)))) else (spec_WettestDays.j0 k l0 a1 t399 false)))
set_option maxHeartbeats 8000000 in
set_option maxRecDepth 100000 in
theorem spec_WettestDays.calls (k : Nat) (A0 : Option Addr) (c0 : Nat) (l0 : List (S43)) (a1 : Int) (r1 : Int) (r2 : Int) (r3 : Int) (w : World) (hr0 : Kd.C k43 w A0 l0.length l0) (hc0 : l0.length ≤ c0) (h : spec_WettestDays.f k l0 a1 = some (r1, r2, r3)) :
  Calls Tryz.prog 28 #[.slice A0 l0.length c0, .int .i64 a1] w fun e w' => e = .returned (.tuple #[.int .i64 r1, .int .i64 r2, .int .i64 r3]) ∧ Below w.heap.size w w' := by
 have HR0 := Aside0.mk hr0
 have HC0 := Aside0.mk hc0
 clear hr0 hc0
 have HB := Aside0.mk (Below.refl w.heap.size w)
 have H : ((spec_l03Span.f a1).bind fun t398 => ((spec_l03Asked.f k l0 t398).bind fun t399 => (if t399 = 0 then (spec_WettestDays.j0 k l0 a1 t399 (decide (a1 > (l0.length : Int)))) else (spec_WettestDays.j0 k l0 a1 t399 false)))) = some (r1, r2, r3) := h
 clear h
 replace H := Option.bind_eq_some_iff.mp H
 obtain ⟨t398, A30, H⟩ := H
 replace H : ((spec_l03Asked.f k l0 t398).bind fun t399 => (if t399 = 0 then (spec_WettestDays.j0 k l0 a1 t399 (decide (a1 > (l0.length : Int)))) else (spec_WettestDays.j0 k l0 a1 t399 false))) = some (r1, r2, r3) := H
 have A3 := Aside0.mk A30
 clear A30
 replace H := Option.bind_eq_some_iff.mp H
 obtain ⟨t399, A40, H⟩ := H
 replace H : (if t399 = 0 then (spec_WettestDays.j0 k l0 a1 t399 (decide (a1 > (l0.length : Int)))) else (spec_WettestDays.j0 k l0 a1 t399 false)) = some (r1, r2, r3) := H
 have A4 := Aside0.mk A40
 clear A40
 have HC5 := Aside0.mk H
 clear H
 go_enter Tryz.func28, Tryz.ntmps28
 go_upto_region 2 with (first | ((with_reducible refine gate_callee (f := 61) rfl ?_); refine goesL_ (some 15) rfl rfl Tryz.func61 (by kernel_rfl) rfl #[.int .i64 a1] rfl aA ?_; (with_reducible refine (spec_l03Span.calls a1 t398 _ A3.out).mono ?_); rintro e w' ⟨rfl, ⟨nd, rfl⟩⟩; refine ⟨_, rfl, ?_⟩) | ((with_reducible refine gate_callee (f := 60) rfl ?_); refine goesL_ (some 16) rfl rfl Tryz.func60 (by kernel_rfl) rfl #[.slice A0 l0.length c0, .bool t398] rfl aA ?_; (with_reducible refine (spec_l03Asked.calls k _ _ l0 t398 t399 _ ?side1 ?side2 A4.out).mono ?_); (case side1 => repeat (first | exact HR0.out | (with_reducible refine Kd.C_alloc ?_ _) | (with_reducible refine Kd.C_drewN ?_ _) | (with_reducible refine Kd.C_drew ?_))); (case side2 => exact HC0.out); rintro e w6 ⟨rfl, hb⟩; refine ⟨_, rfl, ?_⟩; have n0_ := Aside0.mk (below_step bB hb); clear HB; have HB := n0_; clear n0_; (try clear hb); (try clear hb2); (try clear hk); (try clear hi)))
 (try simp only [Act.put, List.setIfInBounds_toArray, List.set_cons_zero, List.set_cons_succ])
 go_cut [24] (fun v24 wc => ∃ (kq : Nat) (x24_4 : Bool), v24 = .bool x24_4 ∧ Aside0 (spec_WettestDays.j0 kq l0 a1 t399 x24_4 = some (r1, r2, r3)) ∧ Aside0 (kq ≤ k) ∧ Aside0 (Below w.heap.size w wc))
 case first =>
  have H := HC5.out
  clear HC5
  by_cases c7 : t399 = 0
  ·
   rw [if_pos c7] at H
   have c7b0 : (t399 == 0) = true := beq_iff_eq.mpr c7
   have c7b1 : (t399 != 0) = false := bne_eq_false_iff_eq.mpr c7
   clear c7
   (first | rw [c7b0] | (simp only [i64_w, i32_w]; rw [c7b0]) | skip)
   have H' := Aside0.mk H
   clear H
   go_wp2
   go_meet
   case rel => exact ⟨_, (decide (a1 > (l0.length : Int))), eE, H', ⟨by first | omega | exact Nat.le_refl _⟩, ⟨bB⟩⟩
  ·
   rw [if_neg c7] at H
   have c7b0 : (t399 == 0) = false := beq_eq_false_iff_ne.mpr c7
   have c7b1 : (t399 != 0) = true := bne_iff_ne.mpr c7
   (first | rw [c7b0] | (simp only [i64_w, i32_w]; rw [c7b0]) | skip)
   have H' := Aside0.mk H
   clear H
   go_wp2
   go_meet
   case rel => exact ⟨_, (false), eE, H', ⟨by first | omega | exact Nat.le_refl _⟩, ⟨bB⟩⟩
 case rest =>
  clear HC5
  try clear c6
  try clear c7
  try clear c7b0
  try clear c7b1
  obtain ⟨kq, x24_4, rfl, HA, HJ4, HB⟩ := hcut
  cases kq with
  | zero => exact absurd HA.out (by simp [spec_WettestDays.j0])
  | succ kj4 =>
   have H := HA.out
   clear HA
   simp only [spec_WettestDays.j0] at H
   have HC8 := Aside0.mk H
   clear H
   go_upto_if 24 with (fail)
   go_cut [7] (fun v7 wc => ∃ (kq : Nat) (x7_7 : Int), v7 = .int .i64 x7_7 ∧ Aside0 (spec_WettestDays.j1 kq l0 a1 x7_7 = some (r1, r2, r3)) ∧ Aside0 (kq ≤ kj4) ∧ Aside0 (Below w.heap.size w wc))
   case first =>
    have H := HC8.out
    clear HC8
    by_cases c9 : x24_4 = true
    ·
     subst c9
     have H1 : (spec_WettestDays.j1 kj4 l0 a1 6) = some (r1, r2, r3) := by rw [if_pos rfl] at H; exact H
     clear H
     have H := H1
     clear H1
     have H' := Aside0.mk H
     clear H
     go_wp2
     go_meet
     case rel => exact ⟨_, (6), eE, H', ⟨by have := HJ4.out; first | omega | exact Nat.le_refl _⟩, ⟨bB⟩⟩
    ·
     replace c9 := Bool.eq_false_iff.mpr c9
     subst c9
     have H1 : (spec_WettestDays.j1 kj4 l0 a1 t399) = some (r1, r2, r3) := by rw [if_neg (show ¬ (false = true) by decide)] at H; exact H
     clear H
     have H := H1
     clear H1
     have H' := Aside0.mk H
     clear H
     go_wp2
     go_meet
     case rel => exact ⟨_, (t399), eE, H', ⟨by have := HJ4.out; first | omega | exact Nat.le_refl _⟩, ⟨bB⟩⟩
   case rest =>
    clear HC8
    try clear c6
    try clear c7
    try clear c7b0
    try clear c7b1
    try clear c9
    obtain ⟨kq, x7_7, rfl, HA, HJ7, HB⟩ := hcut
    cases kq with
    | zero => exact absurd HA.out (by simp [spec_WettestDays.j1])
    | succ kj7 =>
     have H := HA.out
     clear HA
     simp only [spec_WettestDays.j1] at H
     by_cases c10 : x7_7 = 0
     ·
      rw [if_pos c10] at H
      have c10b0 : (x7_7 == 0) = true := beq_iff_eq.mpr c10
      have c10b1 : (x7_7 != 0) = false := bne_eq_false_iff_eq.mpr c10
      clear c10
      have H' := Aside0.mk H
      clear H
      go_wp2
      go_loopg [8, 9, 10] kj7 (fun kq v8 v9 v10 w' => ∃ (x8_3 : Int) (x9_3 : Int) (x10_3 : Int), v8 = .int .i64 x8_3 ∧ v9 = .int .i64 x9_3 ∧ v10 = .int .i64 x10_3 ∧ Aside0 (spec_WettestDays.l0 kq l0 a1 x8_3 x9_3 x10_3 = some (r1, r2, r3)) ∧ Aside0 (kq ≤ kj7) ∧ Aside0 (Below w.heap.size w w'))
      case atStart => exact ⟨(0), ((-1)), (0), eE, eE, eE, H', ⟨Nat.le_refl _⟩, ⟨bB⟩⟩
      case round =>
       clear H'
       try clear c1
       try clear c6
       try clear c7
       try clear c7b0
       try clear c7b1
       try clear c9
       try clear c10
       try clear c10b0
       try clear c10b1
       obtain ⟨x8_3, x9_3, x10_3, rfl, rfl, rfl, HA, HK3, HB⟩ := hrel
       cases gk with
       | zero => exact absurd HA.out (by simp [spec_WettestDays.l0])
       | succ k3 =>
        have H := HA.out
        clear HA
        simp only [spec_WettestDays.l0] at H
        by_cases c11 : (wrap64 (x10_3 + a1)) ≤ (l0.length : Int)
        ·
         rw [if_pos c11] at H
         have c11b0 : decide ((wrap64 (x10_3 + a1)) ≤ (l0.length : Int)) = true := decide_eq_true c11
         clear c11
         have H' := Aside0.mk H
         clear H
         go_wp2
         go_loopg [11, 12] k3 (fun kq v11 v12 w' => ∃ (x11_4 : Int) (x12_4 : Int), v11 = .int .i64 x11_4 ∧ v12 = .int .i64 x12_4 ∧ Aside0 (spec_WettestDays.l1 kq l0 a1 x8_3 x9_3 x10_3 x11_4 x12_4 = some (r1, r2, r3)) ∧ Aside0 (kq ≤ k3) ∧ Aside0 (Below w.heap.size w w'))
         case atStart => exact ⟨(0), (0), eE, eE, H', ⟨Nat.le_refl _⟩, ⟨bB⟩⟩
         case round =>
          clear H'
          try clear c1
          try clear c6
          try clear c7
          try clear c7b0
          try clear c7b1
          try clear c9
          try clear c10
          try clear c10b0
          try clear c10b1
          try clear c11
          try clear c11b0
          obtain ⟨x11_4, x12_4, rfl, rfl, HA, HK4, HB⟩ := hrel
          cases gk with
          | zero => exact absurd HA.out (by simp [spec_WettestDays.l1])
          | succ k4 =>
           have H := HA.out
           clear HA
           simp only [spec_WettestDays.l1] at H
           by_cases c12 : x12_4 < a1
           ·
            rw [if_pos c12] at H
            have c12b0 : decide (x12_4 < a1) = true := decide_eq_true c12
            clear c12
            obtain ⟨ji13, hji13⟩ : ∃ j_ : Int, (wrap64 (x10_3 + x12_4)) = j_ := ⟨_, rfl⟩
            replace H : (if 0 ≤ (ji13) then (if (ji13) < (l0.length : Int) then (spec_WettestDays.l1 k4 l0 a1 x8_3 x9_3 x10_3 (wrap64 (x11_4 + (wrap64 ((rd_T43 l0 (ji13)).f0)))) (wrap64 (x12_4 + 1))) else (none)) else (none)) = some (r1, r2, r3) := by first | (rw [hji13] at H; exact H) | (simp only [hji13] at H ⊢; exact H)
            have hji13w : (IntKind.i64.wrap (x10_3 + x12_4)) = ji13 := (i64_w _).trans hji13
            by_cases c14 : 0 ≤ (ji13)
            ·
             rw [if_pos c14] at H
             have c14b0 : decide (0 ≤ (ji13)) = true := decide_eq_true c14
             clear c14
             by_cases c15 : (ji13) < (l0.length : Int)
             ·
              rw [if_pos c15] at H
              have c15b0 : decide ((ji13) < (l0.length : Int)) = true := decide_eq_true c15
              clear c15
              have H' := Aside0.mk H
              clear H
              have p400 : 0 ≤ ((ji13) : Int) := dD
              have q400 : (ji13) < (l0.length : Int) := dD
              obtain ⟨ad400, e400, hx400_0, hx400_1⟩ := at_T43 HR0.out (ji13) p400 q400
              cases e400
              replace hx400_0 := (HB.out.cell (World.block_lt_of_cell? w _ hx400_0)).trans hx400_0
              replace hx400_1 := (HB.out.cell (World.block_lt_of_cell? w _ hx400_1)).trans hx400_1
              replace p400 := eq_true p400
              replace q400 := eq_true q400
              go_wp2
              go_roundg k4
              case measure => have := HJ4.out; have := HJ7.out; have := HK3.out; have := HK4.out; omega
              case rel => exact ⟨(wrap64 (x11_4 + (wrap64 ((rd_T43 l0 (ji13)).f0)))), (wrap64 (x12_4 + 1)), (by first | rfl | (simp; done) | (simp only [← hji13] <;> (first | rfl | simp)) | (simp [*]; done)), eE, H', ⟨by have := HJ4.out; have := HJ7.out; have := HK3.out; have := HK4.out; omega⟩, ⟨bB⟩⟩
             ·
              rw [if_neg c15] at H
              exact absurd H (by simp)
            ·
             rw [if_neg c14] at H
             exact absurd H (by simp)
           ·
            rw [if_neg c12] at H
            have c12b0 : decide (x12_4 < a1) = false := decide_eq_false c12
            clear c12
            by_cases c16 : x11_4 > x9_3
            ·
             rw [if_pos c16] at H
             have c16b0 : decide (x9_3 < x11_4) = true := decide_eq_true c16
             clear c16
             have H' := Aside0.mk H
             clear H
             go_wp2
             go_roundg k4
             case measure => have := HJ4.out; have := HJ7.out; have := HK3.out; have := HK4.out; omega
             case rel => exact ⟨(x10_3), (x11_4), (wrap64 (x10_3 + 1)), eE, eE, eE, H', ⟨by have := HJ4.out; have := HJ7.out; have := HK3.out; have := HK4.out; omega⟩, ⟨bB⟩⟩
            ·
             rw [if_neg c16] at H
             have c16b0 : decide (x9_3 < x11_4) = false := decide_eq_false c16
             clear c16
             have H' := Aside0.mk H
             clear H
             go_wp2
             go_roundg k4
             case measure => have := HJ4.out; have := HJ7.out; have := HK3.out; have := HK4.out; omega
             case rel => exact ⟨(x8_3), (x9_3), (wrap64 (x10_3 + 1)), eE, eE, eE, H', ⟨by have := HJ4.out; have := HJ7.out; have := HK3.out; have := HK4.out; omega⟩, ⟨bB⟩⟩
        ·
         rw [if_neg c11] at H
         have c11b0 : decide ((wrap64 (x10_3 + a1)) ≤ (l0.length : Int)) = false := decide_eq_false c11
         clear c11
         simp only [Option.some.injEq, Prod.mk.injEq] at H
         obtain ⟨rfl, rfl, rfl⟩ := H
         go_wp2
         go_ret3
         exact ⟨wE, bB⟩
     ·
      rw [if_neg c10] at H
      have c10b0 : (x7_7 == 0) = false := beq_eq_false_iff_ne.mpr c10
      have c10b1 : (x7_7 != 0) = true := bne_iff_ne.mpr c10
      simp only [Option.some.injEq, Prod.mk.injEq] at H
      obtain ⟨rfl, rfl, rfl⟩ := H
      go_wp2
      go_ret3
      exact ⟨wE, bB⟩

end Go.Proofs.YtibpndhcijmhpaaGreatDoor.QG
