/- Walks: printed by a program of this session; nothing here is trusted. -/
import Derived.Test.YtibpndhcijmhpaaGreatDoorQHx0
import Derived.Test.YtibpndhcijmhpaaGreatDoorQHx2
import Derived.Test.YtibpndhcijmhpaaGreatDoorQHx3
import Derived.Test.YtibpndhcijmhpaaGreatDoorQHx5
import Derived.Test.YtibpndhcijmhpaaGreatDoorQHx10
namespace Go.Proofs.YtibpndhcijmhpaaGreatDoor.QG
open Go.RowKit Go.Proofs.YtibpndhcijmhpaaGreatDoorW.PrintWords Go.Proofs.YtibpndhcijmhpaaGreatDoorW.PrintLast Go.Proofs.YtibpndhcijmhpaaGreatDoorW.PrintMore
attribute [local go_sem] max2_int min2_int max_two min_two max_three min_three max_four min_four   -- for this text's walks alone
set_option linter.unusedVariables false
set_option linter.unusedSimpArgs false

/-! ### impl_SwapDays: function 31 -/
def impl_SwapDays.f (k : Nat) (l0 : List (S43)) (a1 : Int) (a2 : Int) : Option ((List (S43)) × Int) := (impl_ValidWeather.f k l0).bind fun t430 => (if t430 = true then ((impl_within.f a1 0 (wrap64 ((l0.length : Int) - 1))).bind fun t431 => (if t431 = true then ((impl_within.f a2 0 (wrap64 ((l0.length : Int) - 1))).bind fun t432 => (if t432 = true then ((impl_Weather_63.f l0).bind fun t433 => (if 0 ≤ a2 then (if a2 < (t433.length : Int) then (if 0 ≤ a1 then (if a1 < (t433.length : Int) then (some (((t433.set (a1 : Int).toNat (⟨(rd_T43 t433 a2).f0, (rd_T43 t433 a2).f1⟩ : S43)).set (a2 : Int).toNat (⟨(rd_T43 t433 a1).f0, (rd_T43 t433 a1).f1⟩ : S43)), 0)) else (none)) else (none)) else (none)) else (none))) else (some (([] : List (S43)), 2)))) else (some (([] : List (S43)), 2)))) else (some (([] : List (S43)), 1)))
def impl_SwapDays.T7 : Bool × List (List Nat × List Nat) := (true, [([], []), ([], []), ([], []), ([], []), ([], []), ([], []), ([4, 5], [4, 5]), ([6], [6]), ([], []), ([], []), ([8, 9], [8, 9]), ([10], [10]), ([0, 1, 0, 1, 4, 5, 6, 7, 11], [0, 1]), ([12, 7, 0, 1, 4, 5, 6, 7, 11], [7, 12]), ([2, 3, 0, 1, 2, 3, 4, 5, 6, 7, 8, 9, 10, 11, 12, 13], [2, 3]), ([14, 11, 13, 0, 1, 2, 3, 4, 5, 6, 7, 8, 9, 10, 11, 12, 13], [11, 14])])
def impl_SwapDays.B7 : List Nat := [0, 0, 0, 0, 0, 0, 48, 112, 0, 0, 768, 1792, 4083, 8179, 16383, 32767]
theorem impl_SwapDays.tab7 : rtab .any (opsOf Tryz.f31 7) = impl_SwapDays.T7 := by kernel_rfl
theorem impl_SwapDays.bits7 : waitsOk impl_SwapDays.T7.2 impl_SwapDays.B7 = true := by kernel_rfl
set_option maxHeartbeats 8000000 in
set_option maxRecDepth 100000 in
theorem impl_SwapDays.calls (k : Nat) (A0 : Option Addr) (c0 : Nat) (l0 : List (S43)) (a1 : Int) (a2 : Int) (r1 : List (S43)) (r2 : Int) (w : World) (hr0 : Kd.C k43 w A0 l0.length l0) (hc0 : l0.length ≤ c0) (h : impl_SwapDays.f k l0 a1 a2 = some (r1, r2)) :
  Calls Tryz.prog 31 #[.slice A0 l0.length c0, .int .i64 a1, .int .i64 a2] w fun e w' => ∃ v0_ : Value, e = .returned (.tuple #[v0_, .int .i64 r2]) ∧ Kd.R k43 43 w' w.heap.size (fun _ => True) v0_ r1 ∧ Below w.heap.size w w' := by
 have hu43 := Tryz.underlying43
 have HR0 := Aside0.mk hr0
 have HC0 := Aside0.mk hc0
 clear hr0 hc0
 have HB := Aside0.mk (Below.refl w.heap.size w)
 have H : ((impl_ValidWeather.f k l0).bind fun t430 => (if t430 = true then ((impl_within.f a1 0 (wrap64 ((l0.length : Int) - 1))).bind fun t431 => (if t431 = true then ((impl_within.f a2 0 (wrap64 ((l0.length : Int) - 1))).bind fun t432 => (if t432 = true then ((impl_Weather_63.f l0).bind fun t433 => (if 0 ≤ a2 then (if a2 < (t433.length : Int) then (if 0 ≤ a1 then (if a1 < (t433.length : Int) then (some (((t433.set (a1 : Int).toNat (⟨(rd_T43 t433 a2).f0, (rd_T43 t433 a2).f1⟩ : S43)).set (a2 : Int).toNat (⟨(rd_T43 t433 a1).f0, (rd_T43 t433 a1).f1⟩ : S43)), 0)) else (none)) else (none)) else (none)) else (none))) else (some (([] : List (S43)), 2)))) else (some (([] : List (S43)), 2)))) else (some (([] : List (S43)), 1)))) = some (r1, r2) := h
 clear h
 replace H := Option.bind_eq_some_iff.mp H
 obtain ⟨t430, A40, H⟩ := H
 replace H : (if t430 = true then ((impl_within.f a1 0 (wrap64 ((l0.length : Int) - 1))).bind fun t431 => (if t431 = true then ((impl_within.f a2 0 (wrap64 ((l0.length : Int) - 1))).bind fun t432 => (if t432 = true then ((impl_Weather_63.f l0).bind fun t433 => (if 0 ≤ a2 then (if a2 < (t433.length : Int) then (if 0 ≤ a1 then (if a1 < (t433.length : Int) then (some (((t433.set (a1 : Int).toNat (⟨(rd_T43 t433 a2).f0, (rd_T43 t433 a2).f1⟩ : S43)).set (a2 : Int).toNat (⟨(rd_T43 t433 a1).f0, (rd_T43 t433 a1).f1⟩ : S43)), 0)) else (none)) else (none)) else (none)) else (none))) else (some (([] : List (S43)), 2)))) else (some (([] : List (S43)), 2)))) else (some (([] : List (S43)), 1))) = some (r1, r2) := H
 have A4 := Aside0.mk A40
 clear A40
 by_cases c5 : t430 = true
 ·
  subst c5
  have H1 : ((impl_within.f a1 0 (wrap64 ((l0.length : Int) - 1))).bind fun t431 => (if t431 = true then ((impl_within.f a2 0 (wrap64 ((l0.length : Int) - 1))).bind fun t432 => (if t432 = true then ((impl_Weather_63.f l0).bind fun t433 => (if 0 ≤ a2 then (if a2 < (t433.length : Int) then (if 0 ≤ a1 then (if a1 < (t433.length : Int) then (some (((t433.set (a1 : Int).toNat (⟨(rd_T43 t433 a2).f0, (rd_T43 t433 a2).f1⟩ : S43)).set (a2 : Int).toNat (⟨(rd_T43 t433 a1).f0, (rd_T43 t433 a1).f1⟩ : S43)), 0)) else (none)) else (none)) else (none)) else (none))) else (some (([] : List (S43)), 2)))) else (some (([] : List (S43)), 2)))) = some (r1, r2) := by rw [if_pos rfl] at H; exact H
  clear H
  have H := H1
  clear H1
  replace H := Option.bind_eq_some_iff.mp H
  obtain ⟨t431, A60, H⟩ := H
  replace H : (if t431 = true then ((impl_within.f a2 0 (wrap64 ((l0.length : Int) - 1))).bind fun t432 => (if t432 = true then ((impl_Weather_63.f l0).bind fun t433 => (if 0 ≤ a2 then (if a2 < (t433.length : Int) then (if 0 ≤ a1 then (if a1 < (t433.length : Int) then (some (((t433.set (a1 : Int).toNat (⟨(rd_T43 t433 a2).f0, (rd_T43 t433 a2).f1⟩ : S43)).set (a2 : Int).toNat (⟨(rd_T43 t433 a1).f0, (rd_T43 t433 a1).f1⟩ : S43)), 0)) else (none)) else (none)) else (none)) else (none))) else (some (([] : List (S43)), 2)))) else (some (([] : List (S43)), 2))) = some (r1, r2) := H
  have A6 := Aside0.mk A60
  clear A60
  by_cases c7 : t431 = true
  ·
   subst c7
   have H1 : ((impl_within.f a2 0 (wrap64 ((l0.length : Int) - 1))).bind fun t432 => (if t432 = true then ((impl_Weather_63.f l0).bind fun t433 => (if 0 ≤ a2 then (if a2 < (t433.length : Int) then (if 0 ≤ a1 then (if a1 < (t433.length : Int) then (some (((t433.set (a1 : Int).toNat (⟨(rd_T43 t433 a2).f0, (rd_T43 t433 a2).f1⟩ : S43)).set (a2 : Int).toNat (⟨(rd_T43 t433 a1).f0, (rd_T43 t433 a1).f1⟩ : S43)), 0)) else (none)) else (none)) else (none)) else (none))) else (some (([] : List (S43)), 2)))) = some (r1, r2) := by rw [if_pos rfl] at H; exact H
   clear H
   have H := H1
   clear H1
   replace H := Option.bind_eq_some_iff.mp H
   obtain ⟨t432, A80, H⟩ := H
   replace H : (if t432 = true then ((impl_Weather_63.f l0).bind fun t433 => (if 0 ≤ a2 then (if a2 < (t433.length : Int) then (if 0 ≤ a1 then (if a1 < (t433.length : Int) then (some (((t433.set (a1 : Int).toNat (⟨(rd_T43 t433 a2).f0, (rd_T43 t433 a2).f1⟩ : S43)).set (a2 : Int).toNat (⟨(rd_T43 t433 a1).f0, (rd_T43 t433 a1).f1⟩ : S43)), 0)) else (none)) else (none)) else (none)) else (none))) else (some (([] : List (S43)), 2))) = some (r1, r2) := H
   have A8 := Aside0.mk A80
   clear A80
   by_cases c9 : t432 = true
   ·
    subst c9
    have H1 : ((impl_Weather_63.f l0).bind fun t433 => (if 0 ≤ a2 then (if a2 < (t433.length : Int) then (if 0 ≤ a1 then (if a1 < (t433.length : Int) then (some (((t433.set (a1 : Int).toNat (⟨(rd_T43 t433 a2).f0, (rd_T43 t433 a2).f1⟩ : S43)).set (a2 : Int).toNat (⟨(rd_T43 t433 a1).f0, (rd_T43 t433 a1).f1⟩ : S43)), 0)) else (none)) else (none)) else (none)) else (none))) = some (r1, r2) := by rw [if_pos rfl] at H; exact H
    clear H
    have H := H1
    clear H1
    replace H := Option.bind_eq_some_iff.mp H
    obtain ⟨t433, A100, H⟩ := H
    replace H : (if 0 ≤ a2 then (if a2 < (t433.length : Int) then (if 0 ≤ a1 then (if a1 < (t433.length : Int) then (some (((t433.set (a1 : Int).toNat (⟨(rd_T43 t433 a2).f0, (rd_T43 t433 a2).f1⟩ : S43)).set (a2 : Int).toNat (⟨(rd_T43 t433 a1).f0, (rd_T43 t433 a1).f1⟩ : S43)), 0)) else (none)) else (none)) else (none)) else (none)) = some (r1, r2) := H
    have A10 := Aside0.mk A100
    clear A100
    by_cases c11 : 0 ≤ a2
    ·
     rw [if_pos c11] at H
     have c11b0 : decide (0 ≤ a2) = true := decide_eq_true c11
     clear c11
     by_cases c12 : a2 < (t433.length : Int)
     ·
      rw [if_pos c12] at H
      have c12b0 : decide (a2 < (t433.length : Int)) = true := decide_eq_true c12
      clear c12
      by_cases c13 : 0 ≤ a1
      ·
       rw [if_pos c13] at H
       have c13b0 : decide (0 ≤ a1) = true := decide_eq_true c13
       clear c13
       by_cases c14 : a1 < (t433.length : Int)
       ·
        rw [if_pos c14] at H
        have c14b0 : decide (a1 < (t433.length : Int)) = true := decide_eq_true c14
        clear c14
        obtain ⟨y438, hy438⟩ : ∃ y_ : List (S43), y_ = (t433.set (a1 : Int).toNat (⟨(rd_T43 t433 a2).f0, (rd_T43 t433 a2).f1⟩ : S43)) := ⟨_, rfl⟩
        replace H : (some ((y438.set (a2 : Int).toNat (⟨(rd_T43 t433 a1).f0, (rd_T43 t433 a1).f1⟩ : S43)), 0)) = some (r1, r2) := by first | (rw [hy438]; with_reducible exact H) | (have H2_ := (Option.bind_some _ _).symm.trans H; rw [hy438]; with_reducible exact H2_) | (have H2_ := (Option.bind_some _ _).symm.trans H; with_reducible exact H2_) | with_reducible exact H | (rw [hy438]; exact H) | exact H
        have Ny438 := Aside0.mk hy438
        clear hy438
        obtain ⟨y439, hy439⟩ : ∃ y_ : List (S43), y_ = (y438.set (a2 : Int).toNat (⟨(rd_T43 t433 a1).f0, (rd_T43 t433 a1).f1⟩ : S43)) := ⟨_, rfl⟩
        replace H : (some (y439, 0)) = some (r1, r2) := by first | (rw [hy439]; with_reducible exact H) | (have H2_ := (Option.bind_some _ _).symm.trans H; rw [hy439]; with_reducible exact H2_) | (have H2_ := (Option.bind_some _ _).symm.trans H; with_reducible exact H2_) | with_reducible exact H | (rw [hy439]; exact H) | exact H
        have Ny439 := Aside0.mk hy439
        clear hy439
        simp only [Option.some.injEq, Prod.mk.injEq] at H
        obtain ⟨rfl, rfl⟩ := H
        go_enter Tryz.func31, Tryz.ntmps31
        try go_wp2_with (first | ((with_reducible refine gate_callee (f := 18) rfl ?_); refine goesL_ (some 15) rfl rfl Tryz.func18 (by kernel_rfl) rfl #[.slice A0 l0.length c0] rfl aA ?_; (with_reducible refine (impl_ValidWeather.calls k _ _ l0 true _ ?side1 ?side2 A4.out).mono ?_); (case side1 => repeat (first | exact HR0.out | (with_reducible refine Kd.C_alloc ?_ _) | (with_reducible refine Kd.C_drewN ?_ _) | (with_reducible refine Kd.C_drew ?_))); (case side2 => exact HC0.out); rintro e w17 ⟨rfl, hb⟩; refine ⟨_, rfl, ?_⟩; have n0_ := Aside0.mk (below_step bB hb); clear HB; have HB := n0_; clear n0_; (try clear hb); (try clear hb2); (try clear hk); (try clear hi)) | ((with_reducible refine gate_callee (f := 40) rfl ?_); refine goesL_ (some 20) rfl rfl Tryz.func40 (by kernel_rfl) rfl #[.int .i64 a1, .int .i64 0, .int .i64 (wrap64 ((l0.length : Int) - 1))] rfl aA ?_; (with_reducible refine (impl_within.calls a1 0 (wrap64 ((l0.length : Int) - 1)) true _ A6.out).mono ?_); rintro e w' ⟨rfl, ⟨nd, rfl⟩⟩; refine ⟨_, rfl, ?_⟩; (try (rw [drewN_self w17]; generalize hq_ : World.drewN w17 _ = w17; have n0_ : Aside0 (Below w.heap.size w w17) := ⟨by rw [← hq_]; exact bB⟩; clear HB hq_; have HB := n0_; clear n0_))) | (go_at_call 40; (with_reducible refine (impl_within.calls a2 0 (wrap64 ((l0.length : Int) - 1)) true _ A8.out).mono ?_); rintro e w' ⟨rfl, ⟨nd, rfl⟩⟩; (try (rw [drewN_self w17]; generalize hq_ : World.drewN w17 _ = w17; have n0_ : Aside0 (Below w.heap.size w w17) := ⟨by rw [← hq_]; exact bB⟩; clear HB hq_; have HB := n0_; clear n0_))) | ((with_reducible refine gate_callee (f := 63) rfl ?_); refine goesL_ (some 29) rfl rfl Tryz.func63 (by kernel_rfl) rfl #[.slice A0 l0.length c0] rfl aA ?_; (with_reducible refine (impl_Weather_63.calls _ _ l0 t433 _ ?side1 ?side2 A10.out).mono ?_); (case side1 => repeat (first | exact (Kd.C_below HR0.out HB.out) | (with_reducible refine Kd.C_alloc ?_ _) | (with_reducible refine Kd.C_drewN ?_ _) | (with_reducible refine Kd.C_drew ?_))); (case side2 => exact HC0.out); rintro e w18 ⟨v434, rfl, ho0, hb⟩; refine ⟨_, rfl, ?_⟩; have n0_ := Aside0.mk (Kd.R_lower ho0 (below_size bB)); have n1_ := Aside0.mk (below_step bB hb); clear HB; have HO435 := n0_; have HB := n1_; clear n0_ n1_; (try clear hb); (try clear hb2); (try clear hk); (try clear hi); (try clear ho0)))
        have n0_ := Aside0.mk (Kd.R_drew HO435.out)
        have n1_ := Aside0.mk (below_drew1 HB.out)
        clear HO435 HB
        have HO435 := n0_
        have HB := n1_
        clear n0_ n1_
        obtain ⟨Ao20, co20, eo20⟩ := Kd.R_slice HO435.out
        (first | subst eo20 | (injection eo20 with f1_ f2_ f3_; have f4_ := f1_.symm; have f5_ := f3_.symm; clear f1_ f2_ f3_; subst f4_; subst f5_))
        have p436 : 0 ≤ (a2 : Int) := dD
        have q436 : a2 < (t433.length : Int) := dD
        obtain ⟨ad436, e436, hx436_0, hx436_1⟩ := at_T43 (Kd.R_reads' HO435.out).2.2 a2 p436 q436
        cases e436
        replace p436 := eq_true p436
        replace q436 := eq_true q436
        have p437 : 0 ≤ (a1 : Int) := dD
        have q437 : a1 < (t433.length : Int) := dD
        obtain ⟨ad437, e437, hx437_0, hx437_1⟩ := at_T43 (Kd.R_reads' HO435.out).2.2 a1 p437 q437
        obtain rfl : ad436 = ad437 := (by injection e437)
        replace p437 := eq_true p437
        replace q437 := eq_true q437
        have p15 : 0 ≤ (a1 : Int) := dD
        have q15 : (a1 : Int) < ((t433.length : Int) : Int) := dD
        obtain ⟨go15, co15, eo15, gb15, gl15, cl15, HG15⟩ := Kd.R_form HO435.out (by omega)
        (first | cases eo15 | (injection eo15 with ea_ en_ ec_; (first | subst ea_ | (injection ea_ with ea_; subst ea_)); subst ec_; clear en_))
        have GB15 := Aside0.mk gb15
        have GG15 := Aside0.mk HG15
        clear gb15 gl15 HG15
        (first | simp only [add_plain] at hx436_0 | skip)
        (first | simp only [add_plain] at hx436_1 | skip)
        (first | simp only [add_plain] at hx437_0 | skip)
        (first | simp only [add_plain] at hx437_1 | skip)
        obtain ⟨ce15, hcl15, hM15, hcc15, hfr15⟩ := Kd.R_elem HO435.out z43 (a1 : Int) p15 q15
        obtain rfl := k43_openM hM15
        have hx15_0 : World.cell? _ ⟨go15, (a1 : Int).toNat * 2, none⟩ = some (.int .i8 ((rd_T43 t433 a1).f0)) := hcc15 0 _ rfl
        have hx15_1 : World.cell? _ ⟨go15, (a1 : Int).toNat * 2 + 1, none⟩ = some (.int .i8 ((rd_T43 t433 a1).f1)) := hcc15 1 _ rfl
        have hf15_0 : World.frozen? _ ⟨go15, (a1 : Int).toNat * 2, none⟩ = false := hfr15 0
        have hf15_1 : World.frozen? _ ⟨go15, (a1 : Int).toNat * 2 + 1, none⟩ = false := hfr15 1
        clear hcl15 hcc15 hfr15 hM15
        replace p15 := eq_true p15
        replace q15 := eq_true q15
        obtain ⟨ce21, hcl21, hM21, hcc21, hfr21⟩ := Kd.R_elem HO435.out z43 (a1 : Int) (dD) (by have h_ : (a1 : Int) < ((t433.length : Int) : Int) := dD; first | exact h_ | (have e_ := (Kd.R_reads' HO435.out).1; omega) | simpa using h_)
        obtain rfl := k43_openM hM21
        have HP21 := (Kd.R_seg HO435.out (a1 : Int) (dD) (by have h_ : (a1 : Int) < ((t433.length : Int) : Int) := dD; first | exact h_ | (have e_ := (Kd.R_reads' HO435.out).1; omega) | simpa using h_) (seg := [.int .i8 ((rd_T43 t433 a2).f0), .int .i8 ((rd_T43 t433 a2).f1)]) (j := 0) hcl21 hcc21 (show 2 ≤ 2 from by decide) (x' := (⟨(rd_T43 t433 a2).f0, (rd_T43 t433 a2).f1⟩ : S43)) (k43_mkM _ _ _ (⟨(rd_T43 t433 a2).f0, (rd_T43 t433 a2).f1⟩ : S43) ) (fun _ hk => hk)).1
        rw [← Ny438.out] at HP21
        have HQ21 := Aside0.mk HP21
        clear hcl21 hcc21 hfr21 hM21 HP21
        have p16 : 0 ≤ (a2 : Int) := dD
        have q16 : (a2 : Int) < ((t433.length : Int) : Int) := dD
        obtain ⟨ce16, hcl16, hM16, hcc16, hfr16⟩ := Kd.R_elem HQ21.out z43 (a2 : Int) p16 q16
        obtain rfl := k43_openM hM16
        have hx16_0 : World.cell? _ ⟨go15, (a2 : Int).toNat * 2, none⟩ = some (.int .i8 ((rd_T43 y438 a2).f0)) := hcc16 0 _ rfl
        have hx16_1 : World.cell? _ ⟨go15, (a2 : Int).toNat * 2 + 1, none⟩ = some (.int .i8 ((rd_T43 y438 a2).f1)) := hcc16 1 _ rfl
        have hf16_0 : World.frozen? _ ⟨go15, (a2 : Int).toNat * 2, none⟩ = false := hfr16 0
        have hf16_1 : World.frozen? _ ⟨go15, (a2 : Int).toNat * 2 + 1, none⟩ = false := hfr16 1
        clear hcl16 hcc16 hfr16 hM16
        replace p16 := eq_true p16
        replace q16 := eq_true q16
        obtain ⟨ce22, hcl22, hM22, hcc22, hfr22⟩ := Kd.R_elem HQ21.out z43 (a2 : Int) (dD) (by have h_ : (a2 : Int) < ((t433.length : Int) : Int) := dD; first | exact h_ | (have e_ := (Kd.R_reads' HO435.out).1; omega) | simpa using h_)
        obtain rfl := k43_openM hM22
        have HP22 := (Kd.R_seg HQ21.out (a2 : Int) (dD) (by have h_ : (a2 : Int) < ((t433.length : Int) : Int) := dD; first | exact h_ | (have e_ := (Kd.R_reads' HO435.out).1; omega) | simpa using h_) (seg := [.int .i8 ((rd_T43 t433 a1).f0), .int .i8 ((rd_T43 t433 a1).f1)]) (j := 0) hcl22 hcc22 (show 2 ≤ 2 from by decide) (x' := (⟨(rd_T43 t433 a1).f0, (rd_T43 t433 a1).f1⟩ : S43)) (k43_mkM _ _ _ (⟨(rd_T43 t433 a1).f0, (rd_T43 t433 a1).f1⟩ : S43) ) (fun _ hk => hk)).1
        rw [← Ny439.out] at HP22
        have HQ22 := Aside0.mk HP22
        clear hcl22 hcc22 hfr22 hM22 HP22
        refine start_ (n := 16) (S := fun w' => w'.cell? ⟨go15, ((a2).toNat * 2), none⟩ = some (.int .i8 ((rd_T43 t433 a2).f0)) ∧ w'.cell? ⟨go15, ((a2).toNat * 2) + 1, none⟩ = some (.int .i8 ((rd_T43 t433 a2).f1)) ∧ w'.cell? ⟨go15, ((a1).toNat * 2), none⟩ = some (.int .i8 ((rd_T43 t433 a1).f0)) ∧ w'.cell? ⟨go15, ((a1).toNat * 2) + 1, none⟩ = some (.int .i8 ((rd_T43 t433 a1).f1))) (ds := [13, 15]) #[false, false, false, false, false, false, false, false, false, false, false, false, false, false, false, false] (by kernel_rfl) rfl rfl ⟨hx436_0, hx436_1, hx437_0, hx437_1⟩ (fun hHeld => ?_); refine with_tabW impl_SwapDays.tab7 impl_SwapDays.bits7 (fun HT_ HW_ => ?_)
        generalize w18.drew = w19 at HO435 HB GG15 HQ21 HQ22 hf15_0 hf15_1 hf16_0 hf16_1 hx15_0 hx15_1 hx16_0 hx16_1 hx436_0 hx436_1 hx437_0 hx437_1 hHeld ⊢
        refine pure_ (i := 0) (N := some 30) (v := ?_) (a' := ?_) #[true, false, false, false, false, false, false, false, false, false, false, false, false, false, false, false] rfl rfl (any_of HT_.out (by kernel_rfl)) (fun _ _ _ h => h) (Or.inl ⟨by rfl, ?_⟩) ?_ ?_
        rotate_left
        ·
         intro w'
         go_simp
         with_reducible rfl
        rotate_left
        ·
         simp only [Act.put, List.setIfInBounds_toArray, List.set_cons_zero, List.set_cons_succ, i64_w, i32_w]
         rfl
        refine pure_ (i := 1) (N := some 31) (v := ?_) (a' := ?_) #[true, true, false, false, false, false, false, false, false, false, false, false, false, false, false, false] rfl rfl (any_of HT_.out (by kernel_rfl)) (fun _ _ _ h => h) (Or.inl ⟨by rfl, ?_⟩) ?_ ?_
        rotate_left
        ·
         intro w'
         go_simp
         with_reducible rfl
        rotate_left
        ·
         simp only [Act.put, List.setIfInBounds_toArray, List.set_cons_zero, List.set_cons_succ, i64_w, i32_w]
         rfl
        refine pure_ (i := 2) (N := some 32) (v := ?_) (a' := ?_) #[true, true, true, false, false, false, false, false, false, false, false, false, false, false, false, false] rfl rfl (any_of HT_.out (by kernel_rfl)) (fun _ _ _ h => h) (Or.inl ⟨by rfl, ?_⟩) ?_ ?_
        rotate_left
        ·
         intro w'
         go_simp
         with_reducible rfl
        rotate_left
        ·
         simp only [Act.put, List.setIfInBounds_toArray, List.set_cons_zero, List.set_cons_succ, i64_w, i32_w]
         rfl
        refine pure_ (i := 3) (N := some 33) (v := ?_) (a' := ?_) #[true, true, true, true, false, false, false, false, false, false, false, false, false, false, false, false] rfl rfl (any_of HT_.out (by kernel_rfl)) (fun _ _ _ h => h) (Or.inl ⟨by rfl, ?_⟩) ?_ ?_
        rotate_left
        ·
         intro w'
         go_simp
         with_reducible rfl
        rotate_left
        ·
         simp only [Act.put, List.setIfInBounds_toArray, List.set_cons_zero, List.set_cons_succ, i64_w, i32_w]
         rfl
        refine pure_ (i := 4) (N := some 34) (v := ?_) (a' := ?_) #[true, true, true, true, true, false, false, false, false, false, false, false, false, false, false, false] rfl rfl (any_of HT_.out (by kernel_rfl)) (fun _ _ _ h => h) (Or.inl ⟨by rfl, ?_⟩) ?_ ?_
        rotate_left
        ·
         intro w'
         go_simp
         with_reducible rfl
        rotate_left
        ·
         simp only [Act.put, List.setIfInBounds_toArray, List.set_cons_zero, List.set_cons_succ, i64_w, i32_w]
         rfl
        refine pure_ (i := 5) (N := some 35) (v := ?_) (a' := ?_) #[true, true, true, true, true, true, false, false, false, false, false, false, false, false, false, false] rfl rfl (any_of HT_.out (by kernel_rfl)) (fun _ _ _ h => h) (Or.inl ⟨by rfl, ?_⟩) ?_ ?_
        rotate_left
        ·
         intro w'
         go_simp
         with_reducible rfl
        rotate_left
        ·
         simp only [Act.put, List.setIfInBounds_toArray, List.set_cons_zero, List.set_cons_succ, i64_w, i32_w]
         rfl
        refine pure_ (i := 6) (N := some 36) (v := ?_) (a' := ?_) #[true, true, true, true, true, true, true, false, false, false, false, false, false, false, false, false] rfl rfl (any_of HT_.out (by kernel_rfl)) (fun _ _ _ h => h) (Or.inl ⟨by rfl, ?_⟩) ?_ ?_
        rotate_left
        ·
         intro w'
         go_simp
         with_reducible rfl
        rotate_left
        ·
         simp only [Act.put, List.setIfInBounds_toArray, List.set_cons_zero, List.set_cons_succ, i64_w, i32_w]
         rfl
        refine pure_ (i := 8) (N := some 38) (v := ?_) (a' := ?_) #[true, true, true, true, true, true, true, false, true, false, false, false, false, false, false, false] rfl rfl (any_of HT_.out (by kernel_rfl)) (fun _ _ _ h => h) (Or.inl ⟨by rfl, ?_⟩) ?_ ?_
        rotate_left
        ·
         intro w'
         go_simp
         with_reducible rfl
        rotate_left
        ·
         simp only [Act.put, List.setIfInBounds_toArray, List.set_cons_zero, List.set_cons_succ, i64_w, i32_w]
         rfl
        refine pure_ (i := 9) (N := some 39) (v := ?_) (a' := ?_) #[true, true, true, true, true, true, true, false, true, true, false, false, false, false, false, false] rfl rfl (any_of HT_.out (by kernel_rfl)) (fun _ _ _ h => h) (Or.inl ⟨by rfl, ?_⟩) ?_ ?_
        rotate_left
        ·
         intro w'
         go_simp
         with_reducible rfl
        rotate_left
        ·
         simp only [Act.put, List.setIfInBounds_toArray, List.set_cons_zero, List.set_cons_succ, i64_w, i32_w]
         rfl
        refine pure_ (i := 10) (N := some 40) (v := ?_) (a' := ?_) #[true, true, true, true, true, true, true, false, true, true, true, false, false, false, false, false] rfl rfl (any_of HT_.out (by kernel_rfl)) (fun _ _ _ h => h) (Or.inl ⟨by rfl, ?_⟩) ?_ ?_
        rotate_left
        ·
         intro w'
         go_simp
         with_reducible rfl
        rotate_left
        ·
         simp only [Act.put, List.setIfInBounds_toArray, List.set_cons_zero, List.set_cons_succ, i64_w, i32_w]
         rfl
        refine take_ (i := 7) (N := some 37) (v := ?_) (a' := ?_) #[true, true, true, true, true, true, true, true, true, true, true, false, false, false, false, false] rfl rfl (take_ofW HT_.out HW_.out (by kernel_rfl)) (fun _ _ _ h => h) (Or.inl ⟨by rfl, ?_⟩) hHeld ?_ ?_
        rotate_left
        ·
         rintro w' ⟨s0, s1, s2, s3⟩
         go_simp
         with_reducible rfl
        rotate_left
        ·
         simp only [Act.put, List.setIfInBounds_toArray, List.set_cons_zero, List.set_cons_succ, i64_w, i32_w]
         rfl
        refine take_ (i := 11) (N := some 41) (v := ?_) (a' := ?_) #[true, true, true, true, true, true, true, true, true, true, true, true, false, false, false, false] rfl rfl (take_ofW HT_.out HW_.out (by kernel_rfl)) (fun _ _ _ h => h) (Or.inl ⟨by rfl, ?_⟩) hHeld ?_ ?_
        rotate_left
        ·
         rintro w' ⟨s0, s1, s2, s3⟩
         go_simp
         with_reducible rfl
        rotate_left
        ·
         simp only [Act.put, List.setIfInBounds_toArray, List.set_cons_zero, List.set_cons_succ, i64_w, i32_w]
         rfl
        refine pure_ (i := 12) (N := some 42) (v := ?_) (a' := ?_) #[true, true, true, true, true, true, true, true, true, true, true, true, true, false, false, false] rfl rfl (any_of HT_.out (by kernel_rfl)) (fun _ _ _ h => h) (Or.inl ⟨by rfl, ?_⟩) ?_ ?_
        rotate_left
        ·
         intro w'
         go_simp
         with_reducible rfl
        rotate_left
        ·
         simp only [Act.put, List.setIfInBounds_toArray, List.set_cons_zero, List.set_cons_succ, i64_w, i32_w]
         rfl
        obtain ⟨q0_, hq0_⟩ : ∃ x, (w19.setCell ⟨go15, a1.toNat * 2, none⟩ (.int .i8 (rd_T43 t433 a2).f0)).cell? ⟨go15, a2.toNat * 2, none⟩ = some x := by
         by_cases e : a1.toNat = a2.toNat
         ·
          rw [e]; exact ⟨_, World.cell?_setCell_same _ _ _ hx436_0⟩
         ·
          exact ⟨_, (World.cell?_setCell_other _ _ _ _ (by intro e2; injection e2 with _ e2 _; omega)).trans hx436_0⟩
        obtain ⟨q1_, hq1_⟩ : ∃ x, ((w19.setCell ⟨go15, a1.toNat * 2, none⟩ (.int .i8 (rd_T43 t433 a2).f0)).setCell ⟨go15, a1.toNat * 2 + 1, none⟩ (.int .i8 (rd_T43 t433 a2).f1)).cell? ⟨go15, a2.toNat * 2 + 1, none⟩ = some x := by
         have o1 : (w19.setCell ⟨go15, a1.toNat * 2, none⟩ (.int .i8 (rd_T43 t433 a2).f0)).cell? ⟨go15, a2.toNat * 2 + 1, none⟩ = _ := (World.cell?_setCell_other _ _ _ _ (by intro e2; injection e2 with _ e2 _; omega)).trans hx436_1
         by_cases e : a1.toNat = a2.toNat
         ·
          rw [e] at o1 ⊢; exact ⟨_, World.cell?_setCell_same _ _ _ o1⟩
         ·
          exact ⟨_, (World.cell?_setCell_other _ _ _ _ (by intro e2; injection e2 with _ e2 _; omega)).trans o1⟩
        have fq0_ := blk_frozen GG15.out (a2.toNat * 2)
        have fq1_ := blk_frozen GG15.out (a2.toNat * 2 + 1)
        refine last_ (i := 13) (N := none) #[true, true, true, true, true, true, true, true, true, true, true, true, true, true, false, false] rfl rfl (one_of HT_.out (by kernel_rfl)) (by decide) (fun K hK => ?_)
        refine skip_ (w1 := ?_) (by rfl) rfl ?_ ?_
        rotate_left
        ·
         go_simp
         rfl
        refine hK.out _ _ ?_
        clear hK K
        refine pure_ (i := 14) (N := some 43) (v := ?_) (a' := ?_) #[true, true, true, true, true, true, true, true, true, true, true, true, true, true, true, false] rfl rfl (any_of HT_.out (by kernel_rfl)) (fun _ _ _ h => h) (Or.inl ⟨by rfl, ?_⟩) ?_ ?_
        rotate_left
        ·
         intro w'
         go_simp
         with_reducible rfl
        rotate_left
        ·
         simp only [Act.put, List.setIfInBounds_toArray, List.set_cons_zero, List.set_cons_succ, i64_w, i32_w]
         rfl
        refine last_ (i := 15) (N := none) #[true, true, true, true, true, true, true, true, true, true, true, true, true, true, true, true] rfl rfl (one_of HT_.out (by kernel_rfl)) (by decide) (fun K hK => ?_)
        refine skip_ (w1 := ?_) (by rfl) rfl ?_ ?_
        rotate_left
        ·
         go_simp
         rfl
        refine hK.out _ _ ?_
        clear hK K
        refine done_ (done_of HT_.out (by kernel_rfl)) ?_
        try go_wp2
        go_ret2
        exact ⟨_, wE, rR HQ22.out, by repeat (first | (with_reducible first | exact HB.out | apply below_alloc | apply pw_below_drewN | apply below_drew1 | refine below_set ?_ GB15.out | refine below_set ?_ GB15.out | refine below_set ?_ GB15.out | refine below_set ?_ GB15.out) | exact HB.out)⟩
       ·
        rw [if_neg c14] at H
        exact absurd H (by simp)
      ·
       rw [if_neg c13] at H
       exact absurd H (by simp)
     ·
      rw [if_neg c12] at H
      exact absurd H (by simp)
    ·
     rw [if_neg c11] at H
     exact absurd H (by simp)
   ·
    replace c9 := Bool.eq_false_iff.mpr c9
    subst c9
    have H1 : (some (([] : List (S43)), 2)) = some (r1, r2) := by rw [if_neg (show ¬ (false = true) by decide)] at H; exact H
    clear H
    have H := H1
    clear H1
    simp only [Option.some.injEq, Prod.mk.injEq] at H
    obtain ⟨rfl, rfl⟩ := H
    go_enter Tryz.func31, Tryz.ntmps31
    go_wp2_with (first | ((with_reducible refine gate_callee (f := 18) rfl ?_); refine goesL_ (some 15) rfl rfl Tryz.func18 (by kernel_rfl) rfl #[.slice A0 l0.length c0] rfl aA ?_; (with_reducible refine (impl_ValidWeather.calls k _ _ l0 true _ ?side1 ?side2 A4.out).mono ?_); (case side1 => repeat (first | exact HR0.out | (with_reducible refine Kd.C_alloc ?_ _) | (with_reducible refine Kd.C_drewN ?_ _) | (with_reducible refine Kd.C_drew ?_))); (case side2 => exact HC0.out); rintro e w23 ⟨rfl, hb⟩; refine ⟨_, rfl, ?_⟩; have n0_ := Aside0.mk (below_step bB hb); clear HB; have HB := n0_; clear n0_; (try clear hb); (try clear hb2); (try clear hk); (try clear hi)) | ((with_reducible refine gate_callee (f := 40) rfl ?_); refine goesL_ (some 20) rfl rfl Tryz.func40 (by kernel_rfl) rfl #[.int .i64 a1, .int .i64 0, .int .i64 (wrap64 ((l0.length : Int) - 1))] rfl aA ?_; (with_reducible refine (impl_within.calls a1 0 (wrap64 ((l0.length : Int) - 1)) true _ A6.out).mono ?_); rintro e w' ⟨rfl, ⟨nd, rfl⟩⟩; refine ⟨_, rfl, ?_⟩) | (go_at_call 40; (with_reducible refine (impl_within.calls a2 0 (wrap64 ((l0.length : Int) - 1)) false _ A8.out).mono ?_); rintro e w' ⟨rfl, ⟨nd, rfl⟩⟩))
    go_ret2
    exact ⟨_, wE, by first | exact Kd.R_nil _ _ _ _ _ | exact Kd.N_nil _ _ _ _ _ | exact Kd.V_nil _ _ _ _ _ | exact Kd.Q_nil _ _ _ _ _ | exact Kd.S_nil _ _ _ _ _, bB⟩
  ·
   replace c7 := Bool.eq_false_iff.mpr c7
   subst c7
   have H1 : (some (([] : List (S43)), 2)) = some (r1, r2) := by rw [if_neg (show ¬ (false = true) by decide)] at H; exact H
   clear H
   have H := H1
   clear H1
   simp only [Option.some.injEq, Prod.mk.injEq] at H
   obtain ⟨rfl, rfl⟩ := H
   go_enter Tryz.func31, Tryz.ntmps31
   go_wp2_with (first | ((with_reducible refine gate_callee (f := 18) rfl ?_); refine goesL_ (some 15) rfl rfl Tryz.func18 (by kernel_rfl) rfl #[.slice A0 l0.length c0] rfl aA ?_; (with_reducible refine (impl_ValidWeather.calls k _ _ l0 true _ ?side1 ?side2 A4.out).mono ?_); (case side1 => repeat (first | exact HR0.out | (with_reducible refine Kd.C_alloc ?_ _) | (with_reducible refine Kd.C_drewN ?_ _) | (with_reducible refine Kd.C_drew ?_))); (case side2 => exact HC0.out); rintro e w24 ⟨rfl, hb⟩; refine ⟨_, rfl, ?_⟩; have n0_ := Aside0.mk (below_step bB hb); clear HB; have HB := n0_; clear n0_; (try clear hb); (try clear hb2); (try clear hk); (try clear hi)) | ((with_reducible refine gate_callee (f := 40) rfl ?_); refine goesL_ (some 20) rfl rfl Tryz.func40 (by kernel_rfl) rfl #[.int .i64 a1, .int .i64 0, .int .i64 (wrap64 ((l0.length : Int) - 1))] rfl aA ?_; (with_reducible refine (impl_within.calls a1 0 (wrap64 ((l0.length : Int) - 1)) false _ A6.out).mono ?_); rintro e w' ⟨rfl, ⟨nd, rfl⟩⟩; refine ⟨_, rfl, ?_⟩))
   go_ret2
   exact ⟨_, wE, by first | exact Kd.R_nil _ _ _ _ _ | exact Kd.N_nil _ _ _ _ _ | exact Kd.V_nil _ _ _ _ _ | exact Kd.Q_nil _ _ _ _ _ | exact Kd.S_nil _ _ _ _ _, bB⟩
 ·
  replace c5 := Bool.eq_false_iff.mpr c5
  subst c5
  have H1 : (some (([] : List (S43)), 1)) = some (r1, r2) := by rw [if_neg (show ¬ (false = true) by decide)] at H; exact H
  clear H
  have H := H1
  clear H1
  simp only [Option.some.injEq, Prod.mk.injEq] at H
  obtain ⟨rfl, rfl⟩ := H
  go_enter Tryz.func31, Tryz.ntmps31
  go_wp2_with (first | ((with_reducible refine gate_callee (f := 18) rfl ?_); refine goesL_ (some 15) rfl rfl Tryz.func18 (by kernel_rfl) rfl #[.slice A0 l0.length c0] rfl aA ?_; (with_reducible refine (impl_ValidWeather.calls k _ _ l0 false _ ?side1 ?side2 A4.out).mono ?_); (case side1 => repeat (first | exact HR0.out | (with_reducible refine Kd.C_alloc ?_ _) | (with_reducible refine Kd.C_drewN ?_ _) | (with_reducible refine Kd.C_drew ?_))); (case side2 => exact HC0.out); rintro e w25 ⟨rfl, hb⟩; refine ⟨_, rfl, ?_⟩; have n0_ := Aside0.mk (below_step bB hb); clear HB; have HB := n0_; clear n0_; (try clear hb); (try clear hb2); (try clear hk); (try clear hi)))
  go_ret2
  exact ⟨_, wE, by first | exact Kd.R_nil _ _ _ _ _ | exact Kd.N_nil _ _ _ _ _ | exact Kd.V_nil _ _ _ _ _ | exact Kd.Q_nil _ _ _ _ _ | exact Kd.S_nil _ _ _ _ _, bB⟩

/-! ### spec_SwapDays: function 32 -/
def spec_SwapDays.f (k : Nat) (l0 : List (S43)) (a1 : Int) (a2 : Int) : Option ((List (S43)) × Int) := (spec_l00In.f a1 0 (wrap64 ((l0.length : Int) - 1))).bind fun t440 => (if t440 = true then ((spec_l00In.f a2 0 (wrap64 ((l0.length : Int) - 1))).bind fun t441 => ((spec_l03Asked.f k l0 t441).bind fun t442 => (if t442 = 0 then ((some (([] : List (S43)) : List (S43))).bind fun y443 => (if y443.length + l0.length < 70368744177664 then ((some (y443 ++ l0 : List (S43))).bind fun y446 => (if 0 ≤ a2 then (if a2 < (l0.length : Int) then (if 0 ≤ a1 then (if a1 < (y446.length : Int) then (if a1 < (l0.length : Int) then (if a2 < (y446.length : Int) then (some (((y446.set (a1 : Int).toNat (⟨(rd_T43 l0 a2).f0, (rd_T43 l0 a2).f1⟩ : S43)).set (a2 : Int).toNat (⟨(rd_T43 l0 a1).f0, (rd_T43 l0 a1).f1⟩ : S43)), 0)) else (none)) else (none)) else (none)) else (none)) else (none)) else (none))) else (none))) else (some ((([] : List (S43))), t442))))) else ((spec_l03Asked.f k l0 false).bind fun t456 => (if t456 = 0 then ((some (([] : List (S43)) : List (S43))).bind fun y457 => (if y457.length + l0.length < 70368744177664 then ((some (y457 ++ l0 : List (S43))).bind fun y460 => (if 0 ≤ a2 then (if a2 < (l0.length : Int) then (if 0 ≤ a1 then (if a1 < (y460.length : Int) then (if a1 < (l0.length : Int) then (if a2 < (y460.length : Int) then (some (((y460.set (a1 : Int).toNat (⟨(rd_T43 l0 a2).f0, (rd_T43 l0 a2).f1⟩ : S43)).set (a2 : Int).toNat (⟨(rd_T43 l0 a1).f0, (rd_T43 l0 a1).f1⟩ : S43)), 0)) else (none)) else (none)) else (none)) else (none)) else (none)) else (none))) else (none))) else (some ((([] : List (S43))), t456)))))
set_option maxHeartbeats 8000000 in
set_option maxRecDepth 100000 in
theorem spec_SwapDays.calls (k : Nat) (A0 : Option Addr) (c0 : Nat) (l0 : List (S43)) (a1 : Int) (a2 : Int) (r1 : List (S43)) (r2 : Int) (w : World) (hr0 : Kd.C k43 w A0 l0.length l0) (hc0 : l0.length ≤ c0) (h : spec_SwapDays.f k l0 a1 a2 = some (r1, r2)) :
  Calls Tryz.prog 32 #[.slice A0 l0.length c0, .int .i64 a1, .int .i64 a2] w fun e w' => ∃ v0_ : Value, e = .returned (.tuple #[v0_, .int .i64 r2]) ∧ Kd.R k43 43 w' w.heap.size (fun _ => True) v0_ r1 ∧ Below w.heap.size w w' := by
 have hu43 := Tryz.underlying43
 have HR0 := Aside0.mk hr0
 have HC0 := Aside0.mk hc0
 clear hr0 hc0
 have HB := Aside0.mk (Below.refl w.heap.size w)
 have H : ((spec_l00In.f a1 0 (wrap64 ((l0.length : Int) - 1))).bind fun t440 => (if t440 = true then ((spec_l00In.f a2 0 (wrap64 ((l0.length : Int) - 1))).bind fun t441 => ((spec_l03Asked.f k l0 t441).bind fun t442 => (if t442 = 0 then ((some (([] : List (S43)) : List (S43))).bind fun y443 => (if y443.length + l0.length < 70368744177664 then ((some (y443 ++ l0 : List (S43))).bind fun y446 => (if 0 ≤ a2 then (if a2 < (l0.length : Int) then (if 0 ≤ a1 then (if a1 < (y446.length : Int) then (if a1 < (l0.length : Int) then (if a2 < (y446.length : Int) then (some (((y446.set (a1 : Int).toNat (⟨(rd_T43 l0 a2).f0, (rd_T43 l0 a2).f1⟩ : S43)).set (a2 : Int).toNat (⟨(rd_T43 l0 a1).f0, (rd_T43 l0 a1).f1⟩ : S43)), 0)) else (none)) else (none)) else (none)) else (none)) else (none)) else (none))) else (none))) else (some ((([] : List (S43))), t442))))) else ((spec_l03Asked.f k l0 false).bind fun t456 => (if t456 = 0 then ((some (([] : List (S43)) : List (S43))).bind fun y457 => (if y457.length + l0.length < 70368744177664 then ((some (y457 ++ l0 : List (S43))).bind fun y460 => (if 0 ≤ a2 then (if a2 < (l0.length : Int) then (if 0 ≤ a1 then (if a1 < (y460.length : Int) then (if a1 < (l0.length : Int) then (if a2 < (y460.length : Int) then (some (((y460.set (a1 : Int).toNat (⟨(rd_T43 l0 a2).f0, (rd_T43 l0 a2).f1⟩ : S43)).set (a2 : Int).toNat (⟨(rd_T43 l0 a1).f0, (rd_T43 l0 a1).f1⟩ : S43)), 0)) else (none)) else (none)) else (none)) else (none)) else (none)) else (none))) else (none))) else (some ((([] : List (S43))), t456)))))) = some (r1, r2) := h
 clear h
 replace H := Option.bind_eq_some_iff.mp H
 obtain ⟨t440, A40, H⟩ := H
 replace H : (if t440 = true then ((spec_l00In.f a2 0 (wrap64 ((l0.length : Int) - 1))).bind fun t441 => ((spec_l03Asked.f k l0 t441).bind fun t442 => (if t442 = 0 then ((some (([] : List (S43)) : List (S43))).bind fun y443 => (if y443.length + l0.length < 70368744177664 then ((some (y443 ++ l0 : List (S43))).bind fun y446 => (if 0 ≤ a2 then (if a2 < (l0.length : Int) then (if 0 ≤ a1 then (if a1 < (y446.length : Int) then (if a1 < (l0.length : Int) then (if a2 < (y446.length : Int) then (some (((y446.set (a1 : Int).toNat (⟨(rd_T43 l0 a2).f0, (rd_T43 l0 a2).f1⟩ : S43)).set (a2 : Int).toNat (⟨(rd_T43 l0 a1).f0, (rd_T43 l0 a1).f1⟩ : S43)), 0)) else (none)) else (none)) else (none)) else (none)) else (none)) else (none))) else (none))) else (some ((([] : List (S43))), t442))))) else ((spec_l03Asked.f k l0 false).bind fun t456 => (if t456 = 0 then ((some (([] : List (S43)) : List (S43))).bind fun y457 => (if y457.length + l0.length < 70368744177664 then ((some (y457 ++ l0 : List (S43))).bind fun y460 => (if 0 ≤ a2 then (if a2 < (l0.length : Int) then (if 0 ≤ a1 then (if a1 < (y460.length : Int) then (if a1 < (l0.length : Int) then (if a2 < (y460.length : Int) then (some (((y460.set (a1 : Int).toNat (⟨(rd_T43 l0 a2).f0, (rd_T43 l0 a2).f1⟩ : S43)).set (a2 : Int).toNat (⟨(rd_T43 l0 a1).f0, (rd_T43 l0 a1).f1⟩ : S43)), 0)) else (none)) else (none)) else (none)) else (none)) else (none)) else (none))) else (none))) else (some ((([] : List (S43))), t456))))) = some (r1, r2) := H
 have A4 := Aside0.mk A40
 clear A40
 by_cases c5 : t440 = true
 ·
  subst c5
  have H1 : ((spec_l00In.f a2 0 (wrap64 ((l0.length : Int) - 1))).bind fun t441 => ((spec_l03Asked.f k l0 t441).bind fun t442 => (if t442 = 0 then ((some (([] : List (S43)) : List (S43))).bind fun y443 => (if y443.length + l0.length < 70368744177664 then ((some (y443 ++ l0 : List (S43))).bind fun y446 => (if 0 ≤ a2 then (if a2 < (l0.length : Int) then (if 0 ≤ a1 then (if a1 < (y446.length : Int) then (if a1 < (l0.length : Int) then (if a2 < (y446.length : Int) then (some (((y446.set (a1 : Int).toNat (⟨(rd_T43 l0 a2).f0, (rd_T43 l0 a2).f1⟩ : S43)).set (a2 : Int).toNat (⟨(rd_T43 l0 a1).f0, (rd_T43 l0 a1).f1⟩ : S43)), 0)) else (none)) else (none)) else (none)) else (none)) else (none)) else (none))) else (none))) else (some ((([] : List (S43))), t442))))) = some (r1, r2) := by rw [if_pos rfl] at H; exact H
  clear H
  have H := H1
  clear H1
  replace H := Option.bind_eq_some_iff.mp H
  obtain ⟨t441, A60, H⟩ := H
  replace H : ((spec_l03Asked.f k l0 t441).bind fun t442 => (if t442 = 0 then ((some (([] : List (S43)) : List (S43))).bind fun y443 => (if y443.length + l0.length < 70368744177664 then ((some (y443 ++ l0 : List (S43))).bind fun y446 => (if 0 ≤ a2 then (if a2 < (l0.length : Int) then (if 0 ≤ a1 then (if a1 < (y446.length : Int) then (if a1 < (l0.length : Int) then (if a2 < (y446.length : Int) then (some (((y446.set (a1 : Int).toNat (⟨(rd_T43 l0 a2).f0, (rd_T43 l0 a2).f1⟩ : S43)).set (a2 : Int).toNat (⟨(rd_T43 l0 a1).f0, (rd_T43 l0 a1).f1⟩ : S43)), 0)) else (none)) else (none)) else (none)) else (none)) else (none)) else (none))) else (none))) else (some ((([] : List (S43))), t442)))) = some (r1, r2) := H
  have A6 := Aside0.mk A60
  clear A60
  replace H := Option.bind_eq_some_iff.mp H
  obtain ⟨t442, A70, H⟩ := H
  replace H : (if t442 = 0 then ((some (([] : List (S43)) : List (S43))).bind fun y443 => (if y443.length + l0.length < 70368744177664 then ((some (y443 ++ l0 : List (S43))).bind fun y446 => (if 0 ≤ a2 then (if a2 < (l0.length : Int) then (if 0 ≤ a1 then (if a1 < (y446.length : Int) then (if a1 < (l0.length : Int) then (if a2 < (y446.length : Int) then (some (((y446.set (a1 : Int).toNat (⟨(rd_T43 l0 a2).f0, (rd_T43 l0 a2).f1⟩ : S43)).set (a2 : Int).toNat (⟨(rd_T43 l0 a1).f0, (rd_T43 l0 a1).f1⟩ : S43)), 0)) else (none)) else (none)) else (none)) else (none)) else (none)) else (none))) else (none))) else (some ((([] : List (S43))), t442))) = some (r1, r2) := H
  have A7 := Aside0.mk A70
  clear A70
  by_cases c8 : t442 = 0
  ·
   rw [if_pos c8] at H
   have c8b0 : (t442 == 0) = true := beq_iff_eq.mpr c8
   have c8b1 : (t442 != 0) = false := bne_eq_false_iff_eq.mpr c8
   clear c8
   obtain ⟨y443, hy443⟩ : ∃ y_ : List (S43), y_ = (([] : List (S43))) := ⟨_, rfl⟩
   replace H : (if y443.length + l0.length < 70368744177664 then ((some (y443 ++ l0 : List (S43))).bind fun y446 => (if 0 ≤ a2 then (if a2 < (l0.length : Int) then (if 0 ≤ a1 then (if a1 < (y446.length : Int) then (if a1 < (l0.length : Int) then (if a2 < (y446.length : Int) then (some (((y446.set (a1 : Int).toNat (⟨(rd_T43 l0 a2).f0, (rd_T43 l0 a2).f1⟩ : S43)).set (a2 : Int).toNat (⟨(rd_T43 l0 a1).f0, (rd_T43 l0 a1).f1⟩ : S43)), 0)) else (none)) else (none)) else (none)) else (none)) else (none)) else (none))) else (none)) = some (r1, r2) := by first | (rw [hy443]; with_reducible exact H) | (have H2_ := (Option.bind_some _ _).symm.trans H; rw [hy443]; with_reducible exact H2_) | (have H2_ := (Option.bind_some _ _).symm.trans H; with_reducible exact H2_) | with_reducible exact H | (rw [hy443]; exact H) | exact H
   have Ny443 := Aside0.mk hy443
   clear hy443
   by_cases c9 : y443.length + l0.length < 70368744177664
   ·
    rw [if_pos c9] at H
    have LMc9 := Aside0.mk c9
    clear c9
    obtain ⟨y446, hy446⟩ : ∃ y_ : List (S43), y_ = (y443 ++ l0) := ⟨_, rfl⟩
    replace H : (if 0 ≤ a2 then (if a2 < (l0.length : Int) then (if 0 ≤ a1 then (if a1 < (y446.length : Int) then (if a1 < (l0.length : Int) then (if a2 < (y446.length : Int) then (some (((y446.set (a1 : Int).toNat (⟨(rd_T43 l0 a2).f0, (rd_T43 l0 a2).f1⟩ : S43)).set (a2 : Int).toNat (⟨(rd_T43 l0 a1).f0, (rd_T43 l0 a1).f1⟩ : S43)), 0)) else (none)) else (none)) else (none)) else (none)) else (none)) else (none)) = some (r1, r2) := by first | (rw [hy446]; with_reducible exact H) | (have H2_ := (Option.bind_some _ _).symm.trans H; rw [hy446]; with_reducible exact H2_) | (have H2_ := (Option.bind_some _ _).symm.trans H; with_reducible exact H2_) | with_reducible exact H | (rw [hy446]; exact H) | exact H
    have Ny446 := Aside0.mk hy446
    clear hy446
    by_cases c10 : 0 ≤ a2
    ·
     rw [if_pos c10] at H
     have c10b0 : decide (0 ≤ a2) = true := decide_eq_true c10
     clear c10
     by_cases c11 : a2 < (l0.length : Int)
     ·
      rw [if_pos c11] at H
      have c11b0 : decide (a2 < (l0.length : Int)) = true := decide_eq_true c11
      clear c11
      by_cases c12 : 0 ≤ a1
      ·
       rw [if_pos c12] at H
       have c12b0 : decide (0 ≤ a1) = true := decide_eq_true c12
       clear c12
       by_cases c13 : a1 < (y446.length : Int)
       ·
        rw [if_pos c13] at H
        have c13b0 : decide (a1 < (y446.length : Int)) = true := decide_eq_true c13
        clear c13
        obtain ⟨y450, hy450⟩ : ∃ y_ : List (S43), y_ = (y446.set (a1 : Int).toNat (⟨(rd_T43 l0 a2).f0, (rd_T43 l0 a2).f1⟩ : S43)) := ⟨_, rfl⟩
        replace H : (if a1 < (l0.length : Int) then (if a2 < (y446.length : Int) then (some ((y450.set (a2 : Int).toNat (⟨(rd_T43 l0 a1).f0, (rd_T43 l0 a1).f1⟩ : S43)), 0)) else (none)) else (none)) = some (r1, r2) := by first | (rw [hy450]; with_reducible exact H) | (have H2_ := (Option.bind_some _ _).symm.trans H; rw [hy450]; with_reducible exact H2_) | (have H2_ := (Option.bind_some _ _).symm.trans H; with_reducible exact H2_) | with_reducible exact H | (rw [hy450]; exact H) | exact H
        have Ny450 := Aside0.mk hy450
        clear hy450
        by_cases c15 : a1 < (l0.length : Int)
        ·
         rw [if_pos c15] at H
         have c15b0 : decide (a1 < (l0.length : Int)) = true := decide_eq_true c15
         clear c15
         by_cases c16 : a2 < (y446.length : Int)
         ·
          rw [if_pos c16] at H
          have c16b0 : decide (a2 < (y446.length : Int)) = true := decide_eq_true c16
          clear c16
          obtain ⟨y452, hy452⟩ : ∃ y_ : List (S43), y_ = (y450.set (a2 : Int).toNat (⟨(rd_T43 l0 a1).f0, (rd_T43 l0 a1).f1⟩ : S43)) := ⟨_, rfl⟩
          replace H : (some (y452, 0)) = some (r1, r2) := by first | (rw [hy452]; with_reducible exact H) | (have H2_ := (Option.bind_some _ _).symm.trans H; rw [hy452]; with_reducible exact H2_) | (have H2_ := (Option.bind_some _ _).symm.trans H; with_reducible exact H2_) | with_reducible exact H | (rw [hy452]; exact H) | exact H
          have Ny452 := Aside0.mk hy452
          clear hy452
          simp only [Option.some.injEq, Prod.mk.injEq] at H
          obtain ⟨rfl, rfl⟩ := H
          go_enter Tryz.func32, Tryz.ntmps32
          go_wp2_with (first | ((with_reducible refine gate_callee (f := 59) rfl ?_); refine goesL_ (some 17) rfl rfl Tryz.func59 (by kernel_rfl) rfl #[.int .i64 a1, .int .i64 0, .int .i64 (wrap64 ((l0.length : Int) - 1))] rfl aA ?_; (with_reducible refine (spec_l00In.calls a1 0 (wrap64 ((l0.length : Int) - 1)) true _ A4.out).mono ?_); rintro e w' ⟨rfl, ⟨nd, rfl⟩⟩; refine ⟨_, rfl, ?_⟩) | (go_at_call 59; (with_reducible refine (spec_l00In.calls a2 0 (wrap64 ((l0.length : Int) - 1)) t441 _ A6.out).mono ?_); rintro e w' ⟨rfl, ⟨nd, rfl⟩⟩) | ((with_reducible refine gate_callee (f := 60) rfl ?_); refine goesL_ (some 24) rfl rfl Tryz.func60 (by kernel_rfl) rfl #[.slice A0 l0.length c0, .bool t441] rfl aA ?_; (with_reducible refine (spec_l03Asked.calls k _ _ l0 t441 t442 _ ?side1 ?side2 A7.out).mono ?_); (case side1 => repeat (first | exact HR0.out | (with_reducible refine Kd.C_alloc ?_ _) | (with_reducible refine Kd.C_drewN ?_ _) | (with_reducible refine Kd.C_drew ?_))); (case side2 => exact HC0.out); rintro e w18 ⟨rfl, hb⟩; refine ⟨_, rfl, ?_⟩; have n0_ := Aside0.mk (below_step bB hb); clear HB; have HB := n0_; clear n0_; (try clear hb); (try clear hb2); (try clear hk); (try clear hi)) | ((with_reducible refine gate_dst (N := 29) rfl ?_); refine Kd.R_lit k43 _ 43 ?hg (N := 29) ?hd (xs := ([] : List (S43))) (inner := []) (ok := fun _ => True) (okp := fun _ => True) ?hr ?hp (fun _ hk => hk) trivial (Below.refl _ _) (Nat.le_refl _) (by simp) ?_; (case hd => rfl); (case hg => rfl); (case hr => first | (go_simp; done) | (go_simp; rfl)); (case hp => exact (Reps.none _ _)); intro v444 w19 ho20 hb hg_ hnew_; clear hg_ hnew_; (first | rw [← Ny443.out] at ho20 | (simp only [Int.reduceToNat] at ho20; rw [← Ny443.out] at ho20)); have n0_ := Aside0.mk (Kd.R_lower ho20 (below_size bB)); have n1_ := Aside0.mk (below_step bB hb); clear HB; have HO445 := n0_; have HB := n1_; clear n0_ n1_; clear hb ho20) | ((with_reducible refine gate_builtin (b := .append) (xs := #[.tmp 29, .tmp 30]) rfl ?_); at_builtin; refine Kd.R_append_rows k43 (w0 := w) w.heap.size rfl (.tmp 29) (.tmp 30) 24 43 (.agg #[(.int .i8 0), (.int .i8 0)]) 2 rfl Tryz.underlying24 info43 rfl (by decide) (by omega) v444 y443 l0 _ _ _ (fun _ => True) (fun _ => False) rfl rfl ?aO ?aR (fun _ _ h => h) (fun _ h => h.elim) ?aF ?aB ?aS ?aL ?_; (case aR => repeat (first | exact (Kd.C_below HR0.out HB.out) | (with_reducible refine Kd.C_alloc ?_ _) | (with_reducible refine Kd.C_drewN ?_ _) | (with_reducible refine Kd.C_drew ?_))); (case aB => exact bB); (case aF => exact (fun _ _ => trivial)); (case aO => exact (rR HO445.out)); (case aS => exact (below_size bB)); (case aL => have := LMc9.out; omega); intro v447 w21 ho hb hg hat; rw [← Ny446.out] at ho; have n0_ := Aside0.mk (hb); have n1_ := Aside0.mk (ho); clear HB; clear HO445; have HB := n0_; have HO448 := n1_; clear n0_ n1_; clear ho hb hg hat; have p449 : 0 ≤ (a2 : Int) := dD; have q449 : a2 < (l0.length : Int) := dD; obtain ⟨ad449, e449, hx449_0, hx449_1⟩ := at_T43 HR0.out a2 p449 q449; cases e449; replace hx449_0 := (HB.out.cell (World.block_lt_of_cell? w _ hx449_0)).trans hx449_0; replace hx449_1 := (HB.out.cell (World.block_lt_of_cell? w _ hx449_1)).trans hx449_1; replace p449 := eq_true p449; replace q449 := eq_true q449; have p14 : 0 ≤ (a1 : Int) := dD; have q14 : (a1 : Int) < ((y446.length : Int) : Int) := dD; obtain ⟨go14, co14, eo14, gb14, gl14, cl14, HG14⟩ := Kd.R_form HO448.out (by omega); (first | cases eo14 | (injection eo14 with ea_ en_ ec_; (first | subst ea_ | (injection ea_ with ea_; subst ea_)); subst ec_; clear en_)); have GB14 := Aside0.mk gb14; have GG14 := Aside0.mk HG14; clear gb14 gl14 HG14; obtain ⟨ce14, hcl14, hM14, hcc14, hfr14⟩ := Kd.R_elem HO448.out z43 (a1 : Int) p14 q14; obtain rfl := k43_openM hM14; have hx14_0 : w21.cell? ⟨go14, (a1 : Int).toNat * 2, none⟩ = some (.int .i8 ((rd_T43 y446 a1).f0)) := hcc14 0 _ rfl; have hx14_1 : w21.cell? ⟨go14, (a1 : Int).toNat * 2 + 1, none⟩ = some (.int .i8 ((rd_T43 y446 a1).f1)) := hcc14 1 _ rfl; have hf14_0 : w21.frozen? ⟨go14, (a1 : Int).toNat * 2, none⟩ = false := hfr14 0; have hf14_1 : w21.frozen? ⟨go14, (a1 : Int).toNat * 2 + 1, none⟩ = false := hfr14 1; clear hcl14 hcc14 hfr14 hM14; replace p14 := eq_true p14; replace q14 := eq_true q14; have HX22 := Aside0.mk (show Kd.R k43 43 w21 w.heap.size (fun _ => True) (.slice (some ⟨go14, 0, none⟩) y446.length co14) y446 from (rR HO448.out)); obtain ⟨ce22, hcl22, hM22, hcc22, hfr22⟩ := Kd.R_elem HX22.out z43 (a1 : Int) (dD) (by have h_ : (a1 : Int) < ((y446.length : Int) : Int) := dD; first | exact h_ | (have e_ := (Kd.R_reads' HO448.out).1; omega) | simpa using h_); obtain rfl := k43_openM hM22; have HP22 := Kd.R_seg HX22.out (a1 : Int) (dD) (by have h_ : (a1 : Int) < ((y446.length : Int) : Int) := dD; first | exact h_ | (have e_ := (Kd.R_reads' HO448.out).1; omega) | simpa using h_) (seg := [.int .i8 ((rd_T43 l0 a2).f0), .int .i8 ((rd_T43 l0 a2).f1)]) (j := 0) hcl22 hcc22 (show 2 ≤ 2 from by decide) (x' := (⟨(rd_T43 l0 a2).f0, (rd_T43 l0 a2).f1⟩ : S43)) (k43_mkM _ _ _ (⟨(rd_T43 l0 a2).f0, (rd_T43 l0 a2).f1⟩ : S43) ) (fun _ hk => hk); have hx22_0 := hcc22 0 _ rfl; (try simp only [show (k43).sz = 2 from rfl, Nat.mul_one, Nat.add_zero] at hx22_0); have hf22_0 := hfr22 0; (try simp only [show (k43).sz = 2 from rfl, Nat.mul_one, Nat.add_zero] at hf22_0); have hx22_1 := hcc22 1 _ rfl; (try simp only [show (k43).sz = 2 from rfl, Nat.mul_one, Nat.add_zero] at hx22_1); have hf22_1 := hfr22 1; (try simp only [show (k43).sz = 2 from rfl, Nat.mul_one, Nat.add_zero] at hf22_1); clear hcl22 hcc22 hfr22 hM22) | ((with_reducible refine gate_store (t := 43) (p := 38) rfl ?_); refine store_event (t := 43) (p := 38) (v := ?vo_w23) (w1 := ((w21.setCell ⟨go14, (a1 : Int).toNat * 2, none⟩ (.int .i8 ((rd_T43 l0 a2).f0))).setCell ⟨go14, (a1 : Int).toNat * 2 + 1, none⟩ (.int .i8 ((rd_T43 l0 a2).f1)))) ?hg ?ho ?hn ?hr ?_; (case ho => rfl); (case hg => rfl); (case hn => rfl); (case hr => first | (go_simp; done) | (go_simp; rfl)); intro w23 hw; have hg : w21.grownBy w23 (some go14) := (by rw [hw]; exact HP22.2); have hp_ : Kd.R k43 43 w23 w.heap.size (fun _ => True) (.slice (some ⟨go14, 0, none⟩) y446.length co14) y450 := (by rw [hw, Ny450.out]; exact HP22.1); clear HP22; have n0_ := Aside0.mk (hp_); have n1_ := Aside0.mk ((by rw [hw]; exact below_set (below_set (HB.out) GB14.out) GB14.out : Below w.heap.size w w23)); clear HO448; clear HB; have HO448 := n0_; have HB := n1_; clear n0_ n1_; clear hg hw hp_; have p451 : 0 ≤ (a1 : Int) := dD; have q451 : a1 < (l0.length : Int) := dD; obtain ⟨ad451, e451, hx451_0, hx451_1⟩ := at_T43 HR0.out a1 p451 q451; obtain rfl : ad449 = ad451 := (by injection e451); replace hx451_0 := (HB.out.cell (World.block_lt_of_cell? w _ hx451_0)).trans hx451_0; replace hx451_1 := (HB.out.cell (World.block_lt_of_cell? w _ hx451_1)).trans hx451_1; replace p451 := eq_true p451; replace q451 := eq_true q451; have p17 : 0 ≤ (a2 : Int) := dD; have q17 : (a2 : Int) < ((y446.length : Int) : Int) := dD; obtain ⟨ce17, hcl17, hM17, hcc17, hfr17⟩ := Kd.R_elem HO448.out z43 (a2 : Int) p17 q17; obtain rfl := k43_openM hM17; have hx17_0 : w23.cell? ⟨go14, (a2 : Int).toNat * 2, none⟩ = some (.int .i8 ((rd_T43 y450 a2).f0)) := hcc17 0 _ rfl; have hx17_1 : w23.cell? ⟨go14, (a2 : Int).toNat * 2 + 1, none⟩ = some (.int .i8 ((rd_T43 y450 a2).f1)) := hcc17 1 _ rfl; have hf17_0 : w23.frozen? ⟨go14, (a2 : Int).toNat * 2, none⟩ = false := hfr17 0; have hf17_1 : w23.frozen? ⟨go14, (a2 : Int).toNat * 2 + 1, none⟩ = false := hfr17 1; clear hcl17 hcc17 hfr17 hM17; replace p17 := eq_true p17; replace q17 := eq_true q17; have HX24 := Aside0.mk (show Kd.R k43 43 w23 w.heap.size (fun _ => True) (.slice (some ⟨go14, 0, none⟩) y446.length co14) y450 from (rR HO448.out)); obtain ⟨ce24, hcl24, hM24, hcc24, hfr24⟩ := Kd.R_elem HX24.out z43 (a2 : Int) (dD) (by have h_ : (a2 : Int) < ((y446.length : Int) : Int) := dD; first | exact h_ | (have e_ := (Kd.R_reads' HO448.out).1; omega) | simpa using h_); obtain rfl := k43_openM hM24; have HP24 := Kd.R_seg HX24.out (a2 : Int) (dD) (by have h_ : (a2 : Int) < ((y446.length : Int) : Int) := dD; first | exact h_ | (have e_ := (Kd.R_reads' HO448.out).1; omega) | simpa using h_) (seg := [.int .i8 ((rd_T43 l0 a1).f0), .int .i8 ((rd_T43 l0 a1).f1)]) (j := 0) hcl24 hcc24 (show 2 ≤ 2 from by decide) (x' := (⟨(rd_T43 l0 a1).f0, (rd_T43 l0 a1).f1⟩ : S43)) (k43_mkM _ _ _ (⟨(rd_T43 l0 a1).f0, (rd_T43 l0 a1).f1⟩ : S43) ) (fun _ hk => hk); have hx24_0 := hcc24 0 _ rfl; (try simp only [show (k43).sz = 2 from rfl, Nat.mul_one, Nat.add_zero] at hx24_0); have hf24_0 := hfr24 0; (try simp only [show (k43).sz = 2 from rfl, Nat.mul_one, Nat.add_zero] at hf24_0); have hx24_1 := hcc24 1 _ rfl; (try simp only [show (k43).sz = 2 from rfl, Nat.mul_one, Nat.add_zero] at hx24_1); have hf24_1 := hfr24 1; (try simp only [show (k43).sz = 2 from rfl, Nat.mul_one, Nat.add_zero] at hf24_1); clear hcl24 hcc24 hfr24 hM24) | ((with_reducible refine gate_store (t := 43) (p := 45) rfl ?_); refine store_event (t := 43) (p := 45) (v := ?vo_w25) (w1 := ((w23.setCell ⟨go14, (a2 : Int).toNat * 2, none⟩ (.int .i8 ((rd_T43 l0 a1).f0))).setCell ⟨go14, (a2 : Int).toNat * 2 + 1, none⟩ (.int .i8 ((rd_T43 l0 a1).f1)))) ?hg ?ho ?hn ?hr ?_; (case ho => rfl); (case hg => rfl); (case hn => rfl); (case hr => first | (go_simp; done) | (go_simp; rfl)); intro w25 hw; have hg : w23.grownBy w25 (some go14) := (by rw [hw]; exact HP24.2); have hp_ : Kd.R k43 43 w25 w.heap.size (fun _ => True) (.slice (some ⟨go14, 0, none⟩) y446.length co14) y452 := (by rw [hw, Ny452.out]; exact HP24.1); clear HP24; have n0_ := Aside0.mk (hp_); have n1_ := Aside0.mk ((by rw [hw]; exact below_set (below_set (HB.out) GB14.out) GB14.out : Below w.heap.size w w25)); clear HO448; clear HB; have HO448 := n0_; have HB := n1_; clear n0_ n1_; clear hg hw hp_))
          go_ret2
          exact ⟨_, wE, rR HO448.out, bB⟩
         ·
          rw [if_neg c16] at H
          exact absurd H (by simp)
        ·
         rw [if_neg c15] at H
         exact absurd H (by simp)
       ·
        rw [if_neg c13] at H
        exact absurd H (by simp)
      ·
       rw [if_neg c12] at H
       exact absurd H (by simp)
     ·
      rw [if_neg c11] at H
      exact absurd H (by simp)
    ·
     rw [if_neg c10] at H
     exact absurd H (by simp)
   ·
    rw [if_neg c9] at H
    exact absurd H (by simp)
  ·
   rw [if_neg c8] at H
   have c8b0 : (t442 == 0) = false := beq_eq_false_iff_ne.mpr c8
   have c8b1 : (t442 != 0) = true := bne_iff_ne.mpr c8
   obtain ⟨y453, hy453⟩ : ∃ y_ : List (S43), y_ = (([] : List (S43))) := ⟨_, rfl⟩
   replace H : (some (y453, t442)) = some (r1, r2) := by first | (rw [hy453]; with_reducible exact H) | (have H2_ := (Option.bind_some _ _).symm.trans H; rw [hy453]; with_reducible exact H2_) | (have H2_ := (Option.bind_some _ _).symm.trans H; with_reducible exact H2_) | with_reducible exact H | (rw [hy453]; exact H) | exact H
   have Ny453 := Aside0.mk hy453
   clear hy453
   simp only [Option.some.injEq, Prod.mk.injEq] at H
   obtain ⟨rfl, rfl⟩ := H
   go_enter Tryz.func32, Tryz.ntmps32
   go_wp2_with (first | ((with_reducible refine gate_callee (f := 59) rfl ?_); refine goesL_ (some 17) rfl rfl Tryz.func59 (by kernel_rfl) rfl #[.int .i64 a1, .int .i64 0, .int .i64 (wrap64 ((l0.length : Int) - 1))] rfl aA ?_; (with_reducible refine (spec_l00In.calls a1 0 (wrap64 ((l0.length : Int) - 1)) true _ A4.out).mono ?_); rintro e w' ⟨rfl, ⟨nd, rfl⟩⟩; refine ⟨_, rfl, ?_⟩) | (go_at_call 59; (with_reducible refine (spec_l00In.calls a2 0 (wrap64 ((l0.length : Int) - 1)) t441 _ A6.out).mono ?_); rintro e w' ⟨rfl, ⟨nd, rfl⟩⟩) | ((with_reducible refine gate_callee (f := 60) rfl ?_); refine goesL_ (some 24) rfl rfl Tryz.func60 (by kernel_rfl) rfl #[.slice A0 l0.length c0, .bool t441] rfl aA ?_; (with_reducible refine (spec_l03Asked.calls k _ _ l0 t441 t442 _ ?side1 ?side2 A7.out).mono ?_); (case side1 => repeat (first | exact HR0.out | (with_reducible refine Kd.C_alloc ?_ _) | (with_reducible refine Kd.C_drewN ?_ _) | (with_reducible refine Kd.C_drew ?_))); (case side2 => exact HC0.out); rintro e w26 ⟨rfl, hb⟩; refine ⟨_, rfl, ?_⟩; have n0_ := Aside0.mk (below_step bB hb); clear HB; have HB := n0_; clear n0_; (try clear hb); (try clear hb2); (try clear hk); (try clear hi)) | ((with_reducible refine gate_dst (N := 27) rfl ?_); refine Kd.R_lit k43 _ 43 ?hg (N := 27) ?hd (xs := ([] : List (S43))) (inner := []) (ok := fun _ => True) (okp := fun _ => True) ?hr ?hp (fun _ hk => hk) trivial (Below.refl _ _) (Nat.le_refl _) (by simp) ?_; (case hd => rfl); (case hg => rfl); (case hr => first | (go_simp; done) | (go_simp; rfl)); (case hp => exact (Reps.none _ _)); intro v454 w27 ho28 hb hg_ hnew_; clear hg_ hnew_; (first | rw [← Ny453.out] at ho28 | (simp only [Int.reduceToNat] at ho28; rw [← Ny453.out] at ho28)); have n0_ := Aside0.mk (Kd.R_lower ho28 (below_size bB)); have n1_ := Aside0.mk (below_step bB hb); clear HB; have HO455 := n0_; have HB := n1_; clear n0_ n1_; clear hb ho28))
   go_ret2
   exact ⟨_, wE, rR HO455.out, bB⟩
 ·
  replace c5 := Bool.eq_false_iff.mpr c5
  subst c5
  have H1 : ((spec_l03Asked.f k l0 false).bind fun t456 => (if t456 = 0 then ((some (([] : List (S43)) : List (S43))).bind fun y457 => (if y457.length + l0.length < 70368744177664 then ((some (y457 ++ l0 : List (S43))).bind fun y460 => (if 0 ≤ a2 then (if a2 < (l0.length : Int) then (if 0 ≤ a1 then (if a1 < (y460.length : Int) then (if a1 < (l0.length : Int) then (if a2 < (y460.length : Int) then (some (((y460.set (a1 : Int).toNat (⟨(rd_T43 l0 a2).f0, (rd_T43 l0 a2).f1⟩ : S43)).set (a2 : Int).toNat (⟨(rd_T43 l0 a1).f0, (rd_T43 l0 a1).f1⟩ : S43)), 0)) else (none)) else (none)) else (none)) else (none)) else (none)) else (none))) else (none))) else (some ((([] : List (S43))), t456)))) = some (r1, r2) := by rw [if_neg (show ¬ (false = true) by decide)] at H; exact H
  clear H
  have H := H1
  clear H1
  replace H := Option.bind_eq_some_iff.mp H
  obtain ⟨t456, A290, H⟩ := H
  replace H : (if t456 = 0 then ((some (([] : List (S43)) : List (S43))).bind fun y457 => (if y457.length + l0.length < 70368744177664 then ((some (y457 ++ l0 : List (S43))).bind fun y460 => (if 0 ≤ a2 then (if a2 < (l0.length : Int) then (if 0 ≤ a1 then (if a1 < (y460.length : Int) then (if a1 < (l0.length : Int) then (if a2 < (y460.length : Int) then (some (((y460.set (a1 : Int).toNat (⟨(rd_T43 l0 a2).f0, (rd_T43 l0 a2).f1⟩ : S43)).set (a2 : Int).toNat (⟨(rd_T43 l0 a1).f0, (rd_T43 l0 a1).f1⟩ : S43)), 0)) else (none)) else (none)) else (none)) else (none)) else (none)) else (none))) else (none))) else (some ((([] : List (S43))), t456))) = some (r1, r2) := H
  have A29 := Aside0.mk A290
  clear A290
  by_cases c30 : t456 = 0
  ·
   rw [if_pos c30] at H
   have c30b0 : (t456 == 0) = true := beq_iff_eq.mpr c30
   have c30b1 : (t456 != 0) = false := bne_eq_false_iff_eq.mpr c30
   clear c30
   obtain ⟨y457, hy457⟩ : ∃ y_ : List (S43), y_ = (([] : List (S43))) := ⟨_, rfl⟩
   replace H : (if y457.length + l0.length < 70368744177664 then ((some (y457 ++ l0 : List (S43))).bind fun y460 => (if 0 ≤ a2 then (if a2 < (l0.length : Int) then (if 0 ≤ a1 then (if a1 < (y460.length : Int) then (if a1 < (l0.length : Int) then (if a2 < (y460.length : Int) then (some (((y460.set (a1 : Int).toNat (⟨(rd_T43 l0 a2).f0, (rd_T43 l0 a2).f1⟩ : S43)).set (a2 : Int).toNat (⟨(rd_T43 l0 a1).f0, (rd_T43 l0 a1).f1⟩ : S43)), 0)) else (none)) else (none)) else (none)) else (none)) else (none)) else (none))) else (none)) = some (r1, r2) := by first | (rw [hy457]; with_reducible exact H) | (have H2_ := (Option.bind_some _ _).symm.trans H; rw [hy457]; with_reducible exact H2_) | (have H2_ := (Option.bind_some _ _).symm.trans H; with_reducible exact H2_) | with_reducible exact H | (rw [hy457]; exact H) | exact H
   have Ny457 := Aside0.mk hy457
   clear hy457
   by_cases c31 : y457.length + l0.length < 70368744177664
   ·
    rw [if_pos c31] at H
    have LMc31 := Aside0.mk c31
    clear c31
    obtain ⟨y460, hy460⟩ : ∃ y_ : List (S43), y_ = (y457 ++ l0) := ⟨_, rfl⟩
    replace H : (if 0 ≤ a2 then (if a2 < (l0.length : Int) then (if 0 ≤ a1 then (if a1 < (y460.length : Int) then (if a1 < (l0.length : Int) then (if a2 < (y460.length : Int) then (some (((y460.set (a1 : Int).toNat (⟨(rd_T43 l0 a2).f0, (rd_T43 l0 a2).f1⟩ : S43)).set (a2 : Int).toNat (⟨(rd_T43 l0 a1).f0, (rd_T43 l0 a1).f1⟩ : S43)), 0)) else (none)) else (none)) else (none)) else (none)) else (none)) else (none)) = some (r1, r2) := by first | (rw [hy460]; with_reducible exact H) | (have H2_ := (Option.bind_some _ _).symm.trans H; rw [hy460]; with_reducible exact H2_) | (have H2_ := (Option.bind_some _ _).symm.trans H; with_reducible exact H2_) | with_reducible exact H | (rw [hy460]; exact H) | exact H
    have Ny460 := Aside0.mk hy460
    clear hy460
    by_cases c32 : 0 ≤ a2
    ·
     rw [if_pos c32] at H
     have c32b0 : decide (0 ≤ a2) = true := decide_eq_true c32
     clear c32
     by_cases c33 : a2 < (l0.length : Int)
     ·
      rw [if_pos c33] at H
      have c33b0 : decide (a2 < (l0.length : Int)) = true := decide_eq_true c33
      clear c33
      by_cases c34 : 0 ≤ a1
      ·
       rw [if_pos c34] at H
       have c34b0 : decide (0 ≤ a1) = true := decide_eq_true c34
       clear c34
       by_cases c35 : a1 < (y460.length : Int)
       ·
        rw [if_pos c35] at H
        have c35b0 : decide (a1 < (y460.length : Int)) = true := decide_eq_true c35
        clear c35
        obtain ⟨y464, hy464⟩ : ∃ y_ : List (S43), y_ = (y460.set (a1 : Int).toNat (⟨(rd_T43 l0 a2).f0, (rd_T43 l0 a2).f1⟩ : S43)) := ⟨_, rfl⟩
        replace H : (if a1 < (l0.length : Int) then (if a2 < (y460.length : Int) then (some ((y464.set (a2 : Int).toNat (⟨(rd_T43 l0 a1).f0, (rd_T43 l0 a1).f1⟩ : S43)), 0)) else (none)) else (none)) = some (r1, r2) := by first | (rw [hy464]; with_reducible exact H) | (have H2_ := (Option.bind_some _ _).symm.trans H; rw [hy464]; with_reducible exact H2_) | (have H2_ := (Option.bind_some _ _).symm.trans H; with_reducible exact H2_) | with_reducible exact H | (rw [hy464]; exact H) | exact H
        have Ny464 := Aside0.mk hy464
        clear hy464
        by_cases c37 : a1 < (l0.length : Int)
        ·
         rw [if_pos c37] at H
         have c37b0 : decide (a1 < (l0.length : Int)) = true := decide_eq_true c37
         clear c37
         by_cases c38 : a2 < (y460.length : Int)
         ·
          rw [if_pos c38] at H
          have c38b0 : decide (a2 < (y460.length : Int)) = true := decide_eq_true c38
          clear c38
          obtain ⟨y466, hy466⟩ : ∃ y_ : List (S43), y_ = (y464.set (a2 : Int).toNat (⟨(rd_T43 l0 a1).f0, (rd_T43 l0 a1).f1⟩ : S43)) := ⟨_, rfl⟩
          replace H : (some (y466, 0)) = some (r1, r2) := by first | (rw [hy466]; with_reducible exact H) | (have H2_ := (Option.bind_some _ _).symm.trans H; rw [hy466]; with_reducible exact H2_) | (have H2_ := (Option.bind_some _ _).symm.trans H; with_reducible exact H2_) | with_reducible exact H | (rw [hy466]; exact H) | exact H
          have Ny466 := Aside0.mk hy466
          clear hy466
          simp only [Option.some.injEq, Prod.mk.injEq] at H
          obtain ⟨rfl, rfl⟩ := H
          go_enter Tryz.func32, Tryz.ntmps32
          go_wp2_with (first | ((with_reducible refine gate_callee (f := 59) rfl ?_); refine goesL_ (some 17) rfl rfl Tryz.func59 (by kernel_rfl) rfl #[.int .i64 a1, .int .i64 0, .int .i64 (wrap64 ((l0.length : Int) - 1))] rfl aA ?_; (with_reducible refine (spec_l00In.calls a1 0 (wrap64 ((l0.length : Int) - 1)) false _ A4.out).mono ?_); rintro e w' ⟨rfl, ⟨nd, rfl⟩⟩; refine ⟨_, rfl, ?_⟩) | ((with_reducible refine gate_callee (f := 60) rfl ?_); refine goesL_ (some 24) rfl rfl Tryz.func60 (by kernel_rfl) rfl #[.slice A0 l0.length c0, .bool false] rfl aA ?_; (with_reducible refine (spec_l03Asked.calls k _ _ l0 false t456 _ ?side1 ?side2 A29.out).mono ?_); (case side1 => repeat (first | exact HR0.out | (with_reducible refine Kd.C_alloc ?_ _) | (with_reducible refine Kd.C_drewN ?_ _) | (with_reducible refine Kd.C_drew ?_))); (case side2 => exact HC0.out); rintro e w40 ⟨rfl, hb⟩; refine ⟨_, rfl, ?_⟩; have n0_ := Aside0.mk (below_step bB hb); clear HB; have HB := n0_; clear n0_; (try clear hb); (try clear hb2); (try clear hk); (try clear hi)) | ((with_reducible refine gate_dst (N := 29) rfl ?_); refine Kd.R_lit k43 _ 43 ?hg (N := 29) ?hd (xs := ([] : List (S43))) (inner := []) (ok := fun _ => True) (okp := fun _ => True) ?hr ?hp (fun _ hk => hk) trivial (Below.refl _ _) (Nat.le_refl _) (by simp) ?_; (case hd => rfl); (case hg => rfl); (case hr => first | (go_simp; done) | (go_simp; rfl)); (case hp => exact (Reps.none _ _)); intro v458 w41 ho42 hb hg_ hnew_; clear hg_ hnew_; (first | rw [← Ny457.out] at ho42 | (simp only [Int.reduceToNat] at ho42; rw [← Ny457.out] at ho42)); have n0_ := Aside0.mk (Kd.R_lower ho42 (below_size bB)); have n1_ := Aside0.mk (below_step bB hb); clear HB; have HO459 := n0_; have HB := n1_; clear n0_ n1_; clear hb ho42) | ((with_reducible refine gate_builtin (b := .append) (xs := #[.tmp 29, .tmp 30]) rfl ?_); at_builtin; refine Kd.R_append_rows k43 (w0 := w) w.heap.size rfl (.tmp 29) (.tmp 30) 24 43 (.agg #[(.int .i8 0), (.int .i8 0)]) 2 rfl Tryz.underlying24 info43 rfl (by decide) (by omega) v458 y457 l0 _ _ _ (fun _ => True) (fun _ => False) rfl rfl ?aO ?aR (fun _ _ h => h) (fun _ h => h.elim) ?aF ?aB ?aS ?aL ?_; (case aR => repeat (first | exact (Kd.C_below HR0.out HB.out) | (with_reducible refine Kd.C_alloc ?_ _) | (with_reducible refine Kd.C_drewN ?_ _) | (with_reducible refine Kd.C_drew ?_))); (case aB => exact bB); (case aF => exact (fun _ _ => trivial)); (case aO => exact (rR HO459.out)); (case aS => exact (below_size bB)); (case aL => have := LMc31.out; omega); intro v461 w43 ho hb hg hat; rw [← Ny460.out] at ho; have n0_ := Aside0.mk (hb); have n1_ := Aside0.mk (ho); clear HB; clear HO459; have HB := n0_; have HO462 := n1_; clear n0_ n1_; clear ho hb hg hat; have p463 : 0 ≤ (a2 : Int) := dD; have q463 : a2 < (l0.length : Int) := dD; obtain ⟨ad463, e463, hx463_0, hx463_1⟩ := at_T43 HR0.out a2 p463 q463; cases e463; replace hx463_0 := (HB.out.cell (World.block_lt_of_cell? w _ hx463_0)).trans hx463_0; replace hx463_1 := (HB.out.cell (World.block_lt_of_cell? w _ hx463_1)).trans hx463_1; replace p463 := eq_true p463; replace q463 := eq_true q463; have p36 : 0 ≤ (a1 : Int) := dD; have q36 : (a1 : Int) < ((y460.length : Int) : Int) := dD; obtain ⟨go36, co36, eo36, gb36, gl36, cl36, HG36⟩ := Kd.R_form HO462.out (by omega); (first | cases eo36 | (injection eo36 with ea_ en_ ec_; (first | subst ea_ | (injection ea_ with ea_; subst ea_)); subst ec_; clear en_)); have GB36 := Aside0.mk gb36; have GG36 := Aside0.mk HG36; clear gb36 gl36 HG36; obtain ⟨ce36, hcl36, hM36, hcc36, hfr36⟩ := Kd.R_elem HO462.out z43 (a1 : Int) p36 q36; obtain rfl := k43_openM hM36; have hx36_0 : w43.cell? ⟨go36, (a1 : Int).toNat * 2, none⟩ = some (.int .i8 ((rd_T43 y460 a1).f0)) := hcc36 0 _ rfl; have hx36_1 : w43.cell? ⟨go36, (a1 : Int).toNat * 2 + 1, none⟩ = some (.int .i8 ((rd_T43 y460 a1).f1)) := hcc36 1 _ rfl; have hf36_0 : w43.frozen? ⟨go36, (a1 : Int).toNat * 2, none⟩ = false := hfr36 0; have hf36_1 : w43.frozen? ⟨go36, (a1 : Int).toNat * 2 + 1, none⟩ = false := hfr36 1; clear hcl36 hcc36 hfr36 hM36; replace p36 := eq_true p36; replace q36 := eq_true q36; have HX44 := Aside0.mk (show Kd.R k43 43 w43 w.heap.size (fun _ => True) (.slice (some ⟨go36, 0, none⟩) y460.length co36) y460 from (rR HO462.out)); obtain ⟨ce44, hcl44, hM44, hcc44, hfr44⟩ := Kd.R_elem HX44.out z43 (a1 : Int) (dD) (by have h_ : (a1 : Int) < ((y460.length : Int) : Int) := dD; first | exact h_ | (have e_ := (Kd.R_reads' HO462.out).1; omega) | simpa using h_); obtain rfl := k43_openM hM44; have HP44 := Kd.R_seg HX44.out (a1 : Int) (dD) (by have h_ : (a1 : Int) < ((y460.length : Int) : Int) := dD; first | exact h_ | (have e_ := (Kd.R_reads' HO462.out).1; omega) | simpa using h_) (seg := [.int .i8 ((rd_T43 l0 a2).f0), .int .i8 ((rd_T43 l0 a2).f1)]) (j := 0) hcl44 hcc44 (show 2 ≤ 2 from by decide) (x' := (⟨(rd_T43 l0 a2).f0, (rd_T43 l0 a2).f1⟩ : S43)) (k43_mkM _ _ _ (⟨(rd_T43 l0 a2).f0, (rd_T43 l0 a2).f1⟩ : S43) ) (fun _ hk => hk); have hx44_0 := hcc44 0 _ rfl; (try simp only [show (k43).sz = 2 from rfl, Nat.mul_one, Nat.add_zero] at hx44_0); have hf44_0 := hfr44 0; (try simp only [show (k43).sz = 2 from rfl, Nat.mul_one, Nat.add_zero] at hf44_0); have hx44_1 := hcc44 1 _ rfl; (try simp only [show (k43).sz = 2 from rfl, Nat.mul_one, Nat.add_zero] at hx44_1); have hf44_1 := hfr44 1; (try simp only [show (k43).sz = 2 from rfl, Nat.mul_one, Nat.add_zero] at hf44_1); clear hcl44 hcc44 hfr44 hM44) | ((with_reducible refine gate_store (t := 43) (p := 38) rfl ?_); refine store_event (t := 43) (p := 38) (v := ?vo_w45) (w1 := ((w43.setCell ⟨go36, (a1 : Int).toNat * 2, none⟩ (.int .i8 ((rd_T43 l0 a2).f0))).setCell ⟨go36, (a1 : Int).toNat * 2 + 1, none⟩ (.int .i8 ((rd_T43 l0 a2).f1)))) ?hg ?ho ?hn ?hr ?_; (case ho => rfl); (case hg => rfl); (case hn => rfl); (case hr => first | (go_simp; done) | (go_simp; rfl)); intro w45 hw; have hg : w43.grownBy w45 (some go36) := (by rw [hw]; exact HP44.2); have hp_ : Kd.R k43 43 w45 w.heap.size (fun _ => True) (.slice (some ⟨go36, 0, none⟩) y460.length co36) y464 := (by rw [hw, Ny464.out]; exact HP44.1); clear HP44; have n0_ := Aside0.mk (hp_); have n1_ := Aside0.mk ((by rw [hw]; exact below_set (below_set (HB.out) GB36.out) GB36.out : Below w.heap.size w w45)); clear HO462; clear HB; have HO462 := n0_; have HB := n1_; clear n0_ n1_; clear hg hw hp_; have p465 : 0 ≤ (a1 : Int) := dD; have q465 : a1 < (l0.length : Int) := dD; obtain ⟨ad465, e465, hx465_0, hx465_1⟩ := at_T43 HR0.out a1 p465 q465; obtain rfl : ad463 = ad465 := (by injection e465); replace hx465_0 := (HB.out.cell (World.block_lt_of_cell? w _ hx465_0)).trans hx465_0; replace hx465_1 := (HB.out.cell (World.block_lt_of_cell? w _ hx465_1)).trans hx465_1; replace p465 := eq_true p465; replace q465 := eq_true q465; have p39 : 0 ≤ (a2 : Int) := dD; have q39 : (a2 : Int) < ((y460.length : Int) : Int) := dD; obtain ⟨ce39, hcl39, hM39, hcc39, hfr39⟩ := Kd.R_elem HO462.out z43 (a2 : Int) p39 q39; obtain rfl := k43_openM hM39; have hx39_0 : w45.cell? ⟨go36, (a2 : Int).toNat * 2, none⟩ = some (.int .i8 ((rd_T43 y464 a2).f0)) := hcc39 0 _ rfl; have hx39_1 : w45.cell? ⟨go36, (a2 : Int).toNat * 2 + 1, none⟩ = some (.int .i8 ((rd_T43 y464 a2).f1)) := hcc39 1 _ rfl; have hf39_0 : w45.frozen? ⟨go36, (a2 : Int).toNat * 2, none⟩ = false := hfr39 0; have hf39_1 : w45.frozen? ⟨go36, (a2 : Int).toNat * 2 + 1, none⟩ = false := hfr39 1; clear hcl39 hcc39 hfr39 hM39; replace p39 := eq_true p39; replace q39 := eq_true q39; have HX46 := Aside0.mk (show Kd.R k43 43 w45 w.heap.size (fun _ => True) (.slice (some ⟨go36, 0, none⟩) y460.length co36) y464 from (rR HO462.out)); obtain ⟨ce46, hcl46, hM46, hcc46, hfr46⟩ := Kd.R_elem HX46.out z43 (a2 : Int) (dD) (by have h_ : (a2 : Int) < ((y460.length : Int) : Int) := dD; first | exact h_ | (have e_ := (Kd.R_reads' HO462.out).1; omega) | simpa using h_); obtain rfl := k43_openM hM46; have HP46 := Kd.R_seg HX46.out (a2 : Int) (dD) (by have h_ : (a2 : Int) < ((y460.length : Int) : Int) := dD; first | exact h_ | (have e_ := (Kd.R_reads' HO462.out).1; omega) | simpa using h_) (seg := [.int .i8 ((rd_T43 l0 a1).f0), .int .i8 ((rd_T43 l0 a1).f1)]) (j := 0) hcl46 hcc46 (show 2 ≤ 2 from by decide) (x' := (⟨(rd_T43 l0 a1).f0, (rd_T43 l0 a1).f1⟩ : S43)) (k43_mkM _ _ _ (⟨(rd_T43 l0 a1).f0, (rd_T43 l0 a1).f1⟩ : S43) ) (fun _ hk => hk); have hx46_0 := hcc46 0 _ rfl; (try simp only [show (k43).sz = 2 from rfl, Nat.mul_one, Nat.add_zero] at hx46_0); have hf46_0 := hfr46 0; (try simp only [show (k43).sz = 2 from rfl, Nat.mul_one, Nat.add_zero] at hf46_0); have hx46_1 := hcc46 1 _ rfl; (try simp only [show (k43).sz = 2 from rfl, Nat.mul_one, Nat.add_zero] at hx46_1); have hf46_1 := hfr46 1; (try simp only [show (k43).sz = 2 from rfl, Nat.mul_one, Nat.add_zero] at hf46_1); clear hcl46 hcc46 hfr46 hM46) | ((with_reducible refine gate_store (t := 43) (p := 45) rfl ?_); refine store_event (t := 43) (p := 45) (v := ?vo_w47) (w1 := ((w45.setCell ⟨go36, (a2 : Int).toNat * 2, none⟩ (.int .i8 ((rd_T43 l0 a1).f0))).setCell ⟨go36, (a2 : Int).toNat * 2 + 1, none⟩ (.int .i8 ((rd_T43 l0 a1).f1)))) ?hg ?ho ?hn ?hr ?_; (case ho => rfl); (case hg => rfl); (case hn => rfl); (case hr => first | (go_simp; done) | (go_simp; rfl)); intro w47 hw; have hg : w45.grownBy w47 (some go36) := (by rw [hw]; exact HP46.2); have hp_ : Kd.R k43 43 w47 w.heap.size (fun _ => True) (.slice (some ⟨go36, 0, none⟩) y460.length co36) y466 := (by rw [hw, Ny466.out]; exact HP46.1); clear HP46; have n0_ := Aside0.mk (hp_); have n1_ := Aside0.mk ((by rw [hw]; exact below_set (below_set (HB.out) GB36.out) GB36.out : Below w.heap.size w w47)); clear HO462; clear HB; have HO462 := n0_; have HB := n1_; clear n0_ n1_; clear hg hw hp_))
          go_ret2
          exact ⟨_, wE, rR HO462.out, bB⟩
         ·
          rw [if_neg c38] at H
          exact absurd H (by simp)
        ·
         rw [if_neg c37] at H
         exact absurd H (by simp)
       ·
        rw [if_neg c35] at H
        exact absurd H (by simp)
      ·
       rw [if_neg c34] at H
       exact absurd H (by simp)
     ·
      rw [if_neg c33] at H
      exact absurd H (by simp)
    ·
     rw [if_neg c32] at H
     exact absurd H (by simp)
   ·
    rw [if_neg c31] at H
    exact absurd H (by simp)
  ·
   rw [if_neg c30] at H
   have c30b0 : (t456 == 0) = false := beq_eq_false_iff_ne.mpr c30
   have c30b1 : (t456 != 0) = true := bne_iff_ne.mpr c30
   obtain ⟨y467, hy467⟩ : ∃ y_ : List (S43), y_ = (([] : List (S43))) := ⟨_, rfl⟩
   replace H : (some (y467, t456)) = some (r1, r2) := by first | (rw [hy467]; with_reducible exact H) | (have H2_ := (Option.bind_some _ _).symm.trans H; rw [hy467]; with_reducible exact H2_) | (have H2_ := (Option.bind_some _ _).symm.trans H; with_reducible exact H2_) | with_reducible exact H | (rw [hy467]; exact H) | exact H
   have Ny467 := Aside0.mk hy467
   clear hy467
   simp only [Option.some.injEq, Prod.mk.injEq] at H
   obtain ⟨rfl, rfl⟩ := H
   go_enter Tryz.func32, Tryz.ntmps32
   go_wp2_with (first | ((with_reducible refine gate_callee (f := 59) rfl ?_); refine goesL_ (some 17) rfl rfl Tryz.func59 (by kernel_rfl) rfl #[.int .i64 a1, .int .i64 0, .int .i64 (wrap64 ((l0.length : Int) - 1))] rfl aA ?_; (with_reducible refine (spec_l00In.calls a1 0 (wrap64 ((l0.length : Int) - 1)) false _ A4.out).mono ?_); rintro e w' ⟨rfl, ⟨nd, rfl⟩⟩; refine ⟨_, rfl, ?_⟩) | ((with_reducible refine gate_callee (f := 60) rfl ?_); refine goesL_ (some 24) rfl rfl Tryz.func60 (by kernel_rfl) rfl #[.slice A0 l0.length c0, .bool false] rfl aA ?_; (with_reducible refine (spec_l03Asked.calls k _ _ l0 false t456 _ ?side1 ?side2 A29.out).mono ?_); (case side1 => repeat (first | exact HR0.out | (with_reducible refine Kd.C_alloc ?_ _) | (with_reducible refine Kd.C_drewN ?_ _) | (with_reducible refine Kd.C_drew ?_))); (case side2 => exact HC0.out); rintro e w48 ⟨rfl, hb⟩; refine ⟨_, rfl, ?_⟩; have n0_ := Aside0.mk (below_step bB hb); clear HB; have HB := n0_; clear n0_; (try clear hb); (try clear hb2); (try clear hk); (try clear hi)) | ((with_reducible refine gate_dst (N := 27) rfl ?_); refine Kd.R_lit k43 _ 43 ?hg (N := 27) ?hd (xs := ([] : List (S43))) (inner := []) (ok := fun _ => True) (okp := fun _ => True) ?hr ?hp (fun _ hk => hk) trivial (Below.refl _ _) (Nat.le_refl _) (by simp) ?_; (case hd => rfl); (case hg => rfl); (case hr => first | (go_simp; done) | (go_simp; rfl)); (case hp => exact (Reps.none _ _)); intro v468 w49 ho50 hb hg_ hnew_; clear hg_ hnew_; (first | rw [← Ny467.out] at ho50 | (simp only [Int.reduceToNat] at ho50; rw [← Ny467.out] at ho50)); have n0_ := Aside0.mk (Kd.R_lower ho50 (below_size bB)); have n1_ := Aside0.mk (below_step bB hb); clear HB; have HO469 := n0_; have HB := n1_; clear n0_ n1_; clear hb ho50))
   go_ret2
   exact ⟨_, wE, rR HO469.out, bB⟩

end Go.Proofs.YtibpndhcijmhpaaGreatDoor.QG
