/- Walks: printed by a program of this session; nothing here is trusted. -/
import Derived.Test.YtibpndhcijmhpaaGreatDoorQHx0
import Derived.Test.YtibpndhcijmhpaaGreatDoorQHx2
import Derived.Test.YtibpndhcijmhpaaGreatDoorQHx3
import Derived.Test.YtibpndhcijmhpaaGreatDoorQHx4
import Derived.Test.YtibpndhcijmhpaaGreatDoorQHx6
namespace Go.Proofs.YtibpndhcijmhpaaGreatDoor.QG
open Go.RowKit Go.Proofs.YtibpndhcijmhpaaGreatDoorW.PrintWords Go.Proofs.YtibpndhcijmhpaaGreatDoorW.PrintLast Go.Proofs.YtibpndhcijmhpaaGreatDoorW.PrintMore
attribute [local go_sem] max2_int min2_int max_two min_two max_three min_three max_four min_four   -- for this text's walks alone
set_option linter.unusedVariables false
set_option linter.unusedSimpArgs false

/-! ### impl_BoxesFor: function 23 -/
mutual
def impl_BoxesFor.j0 : Nat → List Int → Int → Int → Bool → Option (List Int × Int)
 | 0, _, _, _, _ => none
 | k + 1, x0, x1, x2, x11 => if x11 = true then (some (([] : List Int), 2)) else (if (x0.length : Int) > 30 then (some (([] : List Int), 3)) else (impl_BoxesFor.l0 k x1 x2 (([] : List Int)) x0 (x0.length : Int) 0))
def impl_BoxesFor.l0 : Nat → Int → Int → List Int → List Int → Int → Int → Option (List Int × Int)
 | 0, _, _, _, _, _, _ => none
 | k + 1, x1, x2, x8, x29, x30, x31 => if x31 < x30 then (if 0 ≤ x31 then (if x31 < (x29.length : Int) then (if x2 = 0 then (none) else (if x8.length < 17592186044416 then (impl_BoxesFor.l0 k x1 x2 (x8 ++ [wrap64 (Int.tdiv (wrap64 ((wrap64 ((wrap64 ((rd x29 x31) * x1)) + x2)) - 1)) x2)]) x29 x30 (wrap64 (x31 + 1))) else (none))) else (none)) else (none)) else (some (x8, 0))
end
def impl_BoxesFor.f (k : Nat) (l0 : List Int) (a1 : Int) (a2 : Int) : Option (List Int × Int) := (boxes_any.f l0).bind fun t364 => (if t364 = true then (impl_BoxesFor.j0 k l0 a1 a2 true) else ((impl_within.f a1 0 100).bind fun t365 => (if t365 = true then ((impl_within.f a2 1 10000).bind fun t366 => (impl_BoxesFor.j0 k l0 a1 a2 (!t366))) else (impl_BoxesFor.j0 k l0 a1 a2 true))))
set_option maxHeartbeats 8000000 in
set_option maxRecDepth 100000 in
theorem impl_BoxesFor.calls (k : Nat) (A0 : Option Addr) (c0 : Nat) (l0 : List Int) (a1 : Int) (a2 : Int) (r1 : List Int) (r2 : Int) (w : World) (hr0 : Kd.C (Kd.int .i64) w A0 l0.length l0) (hc0 : l0.length ≤ c0) (h : impl_BoxesFor.f k l0 a1 a2 = some (r1, r2)) :
  Calls Tryz.prog 23 #[.slice A0 l0.length c0, .int .i64 a1, .int .i64 a2] w fun e w' => ∃ v0_ : Value, e = .returned (.tuple #[v0_, .int .i64 r2]) ∧ Kd.R (Kd.int .i64) 2 w' w.heap.size (fun _ => True) v0_ r1 ∧ Below w.heap.size w w' := by
 have HR0 := Aside0.mk hr0
 have HC0 := Aside0.mk hc0
 clear hr0 hc0
 have HB := Aside0.mk (Below.refl w.heap.size w)
 have H : ((boxes_any.f l0).bind fun t364 => (if t364 = true then (impl_BoxesFor.j0 k l0 a1 a2 true) else ((impl_within.f a1 0 100).bind fun t365 => (if t365 = true then ((impl_within.f a2 1 10000).bind fun t366 => (impl_BoxesFor.j0 k l0 a1 a2 (!t366))) else (impl_BoxesFor.j0 k l0 a1 a2 true))))) = some (r1, r2) := h
 clear h
 have HC4 := Aside0.mk H
 clear H
 go_enter Tryz.func23, Tryz.ntmps23
 go_upto_region 1 with (fail)
 go_cut [11] (fun v11 wc => ∃ (kq : Nat) (x11_3 : Bool), v11 = .bool x11_3 ∧ Aside0 (impl_BoxesFor.j0 kq l0 a1 a2 x11_3 = some (r1, r2)) ∧ Aside0 (kq ≤ k) ∧ Aside0 (Below w.heap.size w wc))
 case first =>
  have H := HC4.out
  clear HC4
  replace H := Option.bind_eq_some_iff.mp H
  obtain ⟨t364, A50, H⟩ := H
  replace H : (if t364 = true then (impl_BoxesFor.j0 k l0 a1 a2 true) else ((impl_within.f a1 0 100).bind fun t365 => (if t365 = true then ((impl_within.f a2 1 10000).bind fun t366 => (impl_BoxesFor.j0 k l0 a1 a2 (!t366))) else (impl_BoxesFor.j0 k l0 a1 a2 true)))) = some (r1, r2) := H
  have A5 := Aside0.mk A50
  clear A50
  by_cases c6 : t364 = true
  ·
   subst c6
   have H1 : (impl_BoxesFor.j0 k l0 a1 a2 true) = some (r1, r2) := by rw [if_pos rfl] at H; exact H
   clear H
   have H := H1
   clear H1
   have H' := Aside0.mk H
   clear H
   go_wp2_with (first | ((with_reducible refine gate_callee (f := 57) rfl ?_); refine goesL_ (some 13) rfl rfl Tryz.func57 (by kernel_rfl) rfl #[.slice A0 l0.length c0, .func (.func 58) #[] #[]] rfl aA ?_; (with_reducible refine (boxes_any.calls _ _ l0 true _ ?side1 ?side2 A5.out).mono ?_); (case side1 => repeat (first | exact (Kd.C_below HR0.out HB.out) | (with_reducible refine Kd.C_alloc ?_ _) | (with_reducible refine Kd.C_drewN ?_ _) | (with_reducible refine Kd.C_drew ?_))); (case side2 => exact HC0.out); rintro e w7 ⟨rfl, hb⟩; refine ⟨_, rfl, ?_⟩; have n0_ := Aside0.mk (below_step bB hb); clear HB; have HB := n0_; clear n0_; (try clear hb); (try clear hb2); (try clear hk); (try clear hi)))
   go_meet
   case rel => exact ⟨_, (true), eE, H', ⟨by first | omega | exact Nat.le_refl _⟩, ⟨bB⟩⟩
  ·
   replace c6 := Bool.eq_false_iff.mpr c6
   subst c6
   have H1 : ((impl_within.f a1 0 100).bind fun t365 => (if t365 = true then ((impl_within.f a2 1 10000).bind fun t366 => (impl_BoxesFor.j0 k l0 a1 a2 (!t366))) else (impl_BoxesFor.j0 k l0 a1 a2 true))) = some (r1, r2) := by rw [if_neg (show ¬ (false = true) by decide)] at H; exact H
   clear H
   have H := H1
   clear H1
   replace H := Option.bind_eq_some_iff.mp H
   obtain ⟨t365, A80, H⟩ := H
   replace H : (if t365 = true then ((impl_within.f a2 1 10000).bind fun t366 => (impl_BoxesFor.j0 k l0 a1 a2 (!t366))) else (impl_BoxesFor.j0 k l0 a1 a2 true)) = some (r1, r2) := H
   have A8 := Aside0.mk A80
   clear A80
   by_cases c9 : t365 = true
   ·
    subst c9
    have H1 : ((impl_within.f a2 1 10000).bind fun t366 => (impl_BoxesFor.j0 k l0 a1 a2 (!t366))) = some (r1, r2) := by rw [if_pos rfl] at H; exact H
    clear H
    have H := H1
    clear H1
    replace H := Option.bind_eq_some_iff.mp H
    obtain ⟨t366, A100, H⟩ := H
    replace H : (impl_BoxesFor.j0 k l0 a1 a2 (!t366)) = some (r1, r2) := H
    have A10 := Aside0.mk A100
    clear A100
    have H' := Aside0.mk H
    clear H
    go_wp2_with (first | ((with_reducible refine gate_callee (f := 57) rfl ?_); refine goesL_ (some 13) rfl rfl Tryz.func57 (by kernel_rfl) rfl #[.slice A0 l0.length c0, .func (.func 58) #[] #[]] rfl aA ?_; (with_reducible refine (boxes_any.calls _ _ l0 false _ ?side1 ?side2 A5.out).mono ?_); (case side1 => repeat (first | exact (Kd.C_below HR0.out HB.out) | (with_reducible refine Kd.C_alloc ?_ _) | (with_reducible refine Kd.C_drewN ?_ _) | (with_reducible refine Kd.C_drew ?_))); (case side2 => exact HC0.out); rintro e w11 ⟨rfl, hb⟩; refine ⟨_, rfl, ?_⟩; have n0_ := Aside0.mk (below_step bB hb); clear HB; have HB := n0_; clear n0_; (try clear hb); (try clear hb2); (try clear hk); (try clear hi)) | (go_at_call 40; (with_reducible refine (impl_within.calls a1 0 100 true _ A8.out).mono ?_); rintro e w' ⟨rfl, ⟨nd, rfl⟩⟩) | (go_at_call 40; (with_reducible refine (impl_within.calls a2 1 10000 t366 _ A10.out).mono ?_); rintro e w' ⟨rfl, ⟨nd, rfl⟩⟩))
    go_meet
    case rel => exact ⟨_, (!t366), eE, H', ⟨by first | omega | exact Nat.le_refl _⟩, ⟨bB⟩⟩
   ·
    replace c9 := Bool.eq_false_iff.mpr c9
    subst c9
    have H1 : (impl_BoxesFor.j0 k l0 a1 a2 true) = some (r1, r2) := by rw [if_neg (show ¬ (false = true) by decide)] at H; exact H
    clear H
    have H := H1
    clear H1
    have H' := Aside0.mk H
    clear H
    go_wp2_with (first | ((with_reducible refine gate_callee (f := 57) rfl ?_); refine goesL_ (some 13) rfl rfl Tryz.func57 (by kernel_rfl) rfl #[.slice A0 l0.length c0, .func (.func 58) #[] #[]] rfl aA ?_; (with_reducible refine (boxes_any.calls _ _ l0 false _ ?side1 ?side2 A5.out).mono ?_); (case side1 => repeat (first | exact (Kd.C_below HR0.out HB.out) | (with_reducible refine Kd.C_alloc ?_ _) | (with_reducible refine Kd.C_drewN ?_ _) | (with_reducible refine Kd.C_drew ?_))); (case side2 => exact HC0.out); rintro e w12 ⟨rfl, hb⟩; refine ⟨_, rfl, ?_⟩; have n0_ := Aside0.mk (below_step bB hb); clear HB; have HB := n0_; clear n0_; (try clear hb); (try clear hb2); (try clear hk); (try clear hi)) | (go_at_call 40; (with_reducible refine (impl_within.calls a1 0 100 false _ A8.out).mono ?_); rintro e w' ⟨rfl, ⟨nd, rfl⟩⟩))
    go_meet
    case rel => exact ⟨_, (true), eE, H', ⟨by first | omega | exact Nat.le_refl _⟩, ⟨bB⟩⟩
 case rest =>
  clear HC4
  try clear c5
  try clear c6
  try clear c9
  obtain ⟨kq, x11_3, rfl, HA, HJ3, HB⟩ := hcut
  cases kq with
  | zero => exact absurd HA.out (by simp [impl_BoxesFor.j0])
  | succ kj3 =>
   have H := HA.out
   clear HA
   simp only [impl_BoxesFor.j0] at H
   by_cases c13 : x11_3 = true
   ·
    subst c13
    have H1 : (some (([] : List Int), 2)) = some (r1, r2) := by rw [if_pos rfl] at H; exact H
    clear H
    have H := H1
    clear H1
    simp only [Option.some.injEq, Prod.mk.injEq] at H
    obtain ⟨rfl, rfl⟩ := H
    go_wp2
    go_ret2
    exact ⟨_, wE, by first | exact Kd.R_nil _ _ _ _ _ | exact Kd.N_nil _ _ _ _ _ | exact Kd.V_nil _ _ _ _ _ | exact Kd.Q_nil _ _ _ _ _ | exact Kd.S_nil _ _ _ _ _, bB⟩
   ·
    replace c13 := Bool.eq_false_iff.mpr c13
    subst c13
    have H1 : (if (l0.length : Int) > 30 then (some (([] : List Int), 3)) else (impl_BoxesFor.l0 kj3 a1 a2 (([] : List Int)) l0 (l0.length : Int) 0)) = some (r1, r2) := by rw [if_neg (show ¬ (false = true) by decide)] at H; exact H
    clear H
    have H := H1
    clear H1
    by_cases c14 : (l0.length : Int) > 30
    ·
     rw [if_pos c14] at H
     have c14b0 : decide (30 < (l0.length : Int)) = true := decide_eq_true c14
     have c14b1 : decide (30 < l0.length) = true := decide_eq_true (by omega)
     clear c14
     simp only [Option.some.injEq, Prod.mk.injEq] at H
     obtain ⟨rfl, rfl⟩ := H
     go_wp2
     go_ret2
     exact ⟨_, wE, by first | exact Kd.R_nil _ _ _ _ _ | exact Kd.N_nil _ _ _ _ _ | exact Kd.V_nil _ _ _ _ _ | exact Kd.Q_nil _ _ _ _ _ | exact Kd.S_nil _ _ _ _ _, bB⟩
    ·
     rw [if_neg c14] at H
     have c14b0 : decide (30 < (l0.length : Int)) = false := decide_eq_false c14
     have c14b1 : decide (30 < l0.length) = false := decide_eq_false (by omega)
     clear c14
     obtain ⟨y367, hy367⟩ : ∃ y_ : List Int, y_ = (([] : List Int)) := ⟨_, rfl⟩
     replace H : (impl_BoxesFor.l0 kj3 a1 a2 y367 l0 (l0.length : Int) 0) = some (r1, r2) := by first | (rw [hy367]; with_reducible exact H) | (have H2_ := (Option.bind_some _ _).symm.trans H; rw [hy367]; with_reducible exact H2_) | (have H2_ := (Option.bind_some _ _).symm.trans H; with_reducible exact H2_) | with_reducible exact H | (rw [hy367]; exact H) | exact H
     have Ny367 := Aside0.mk hy367
     clear hy367
     have H' := Aside0.mk H
     clear H
     go_wp2_with (first | ((with_reducible refine gate_dst (N := 28) rfl ?_); refine Kd.R_lit (Kd.int .i64) _ 2 ?hg (N := 28) ?hd (xs := ([] : List Int)) (inner := []) (ok := fun _ => True) (okp := fun _ => True) ?hr ?hp (fun _ hk => hk) trivial (Below.refl _ _) (Nat.le_refl _) (by simp) ?_; (case hd => rfl); (case hg => rfl); (case hr => first | (go_simp; done) | (go_simp; rfl)); (case hp => exact (Reps.none _ _)); intro v368 w15 ho16 hb hg_ hnew_; clear hg_ hnew_; (first | rw [← Ny367.out] at ho16 | (simp only [Int.reduceToNat] at ho16; rw [← Ny367.out] at ho16)); have n0_ := Aside0.mk (Kd.R_lower ho16 (below_size bB)); have n1_ := Aside0.mk (below_step bB hb); clear HB; have HO369 := n0_; have HB := n1_; clear n0_ n1_; clear hb ho16))
     go_loopg [8, 31] kj3 (fun kq v8 v31 w' => ∃ (x8_2 : List Int) (x31_2 : Int), v31 = .int .i64 x31_2 ∧ Aside0 (impl_BoxesFor.l0 kq a1 a2 x8_2 l0 (l0.length : Int) x31_2 = some (r1, r2)) ∧ Aside0 (kq ≤ kj3) ∧ Aside0 (Kd.R (Kd.int .i64) 2 w' w.heap.size (fun _ => True) v8 x8_2) ∧ Aside0 (Below w.heap.size w w'))
     case atStart => exact ⟨(y367), (0), eE, H', ⟨Nat.le_refl _⟩, ⟨rR HO369.out⟩, ⟨bB⟩⟩
     case round =>
      clear H'
      try clear c5
      try clear c6
      try clear c9
      try clear c13
      try clear c14
      try clear c14b0
      try clear c14b1
      obtain ⟨x8_2, x31_2, rfl, HA, HK2, HO_8, HB⟩ := hrel
      cases gk with
      | zero => exact absurd HA.out (by simp [impl_BoxesFor.l0])
      | succ k2 =>
       have H := HA.out
       clear HA
       simp only [impl_BoxesFor.l0] at H
       by_cases c17 : x31_2 < (l0.length : Int)
       ·
        rw [if_pos c17] at H
        have c17b0 : decide (x31_2 < (l0.length : Int)) = true := decide_eq_true c17
        clear c17
        by_cases c18 : 0 ≤ x31_2
        ·
         rw [if_pos c18] at H
         have c18b0 : decide (0 ≤ x31_2) = true := decide_eq_true c18
         clear c18
         by_cases c19 : x31_2 < (l0.length : Int)
         ·
          rw [if_pos c19] at H
          have c19b0 : decide (x31_2 < (l0.length : Int)) = true := decide_eq_true c19
          clear c19
          by_cases c20 : a2 = 0
          ·
           rw [if_pos c20] at H
           exact absurd H (by simp)
          ·
           rw [if_neg c20] at H
           have c20b0 : (a2 == 0) = false := beq_eq_false_iff_ne.mpr c20
           have c20b1 : (a2 != 0) = true := bne_iff_ne.mpr c20
           by_cases c21 : x8_2.length < 17592186044416
           ·
            rw [if_pos c21] at H
            have LMc21 := Aside0.mk c21
            clear c21
            obtain ⟨y371, hy371⟩ : ∃ y_ : List Int, y_ = (x8_2 ++ [wrap64 (Int.tdiv (wrap64 ((wrap64 ((wrap64 ((rd l0 x31_2) * a1)) + a2)) - 1)) a2)]) := ⟨_, rfl⟩
            replace H : (impl_BoxesFor.l0 k2 a1 a2 y371 l0 (l0.length : Int) (wrap64 (x31_2 + 1))) = some (r1, r2) := by first | (rw [hy371]; with_reducible exact H) | (have H2_ := (Option.bind_some _ _).symm.trans H; rw [hy371]; with_reducible exact H2_) | (have H2_ := (Option.bind_some _ _).symm.trans H; with_reducible exact H2_) | with_reducible exact H | (rw [hy371]; exact H) | exact H
            have Ny371 := Aside0.mk hy371
            clear hy371
            have H' := Aside0.mk H
            clear H
            have p370 : 0 ≤ (x31_2 : Int) := dD
            have q370 : x31_2 < (l0.length : Int) := dD
            obtain ⟨ad370, e370, hx370_0⟩ := Kd.at_int HR0.out x31_2 p370 q370
            cases e370
            replace hx370_0 := (HB.out.cell (World.block_lt_of_cell? w _ hx370_0)).trans hx370_0
            replace p370 := eq_true p370
            replace q370 := eq_true q370
            go_wp2_with (first | ((with_reducible refine gate_builtin (b := .append) (xs := #[.tmp 35, .tmp 44]) rfl ?_); at_builtin; refine Kd.R_append (Kd.int .i64) (w0 := w) w.heap.size rfl (.tmp 35) (.tmp 44) 26 2 (.int .i64 0) 8 rfl Tryz.underlying26 info2 rfl (by decide) (by omega) u8 x8_2 (wrap64 (Int.tdiv (wrap64 ((wrap64 ((wrap64 ((rd l0 x31_2) * a1)) + a2)) - 1)) a2)) [.int .i64 (wrap64 (Int.tdiv (wrap64 ((wrap64 ((wrap64 ((rd l0 x31_2) * a1)) + a2)) - 1)) a2))] (fun _ => True) (fun _ => False) rfl rfl ?aP (fun _ hk => hk.elim) ?aF ?aO ?aB ?aS ?aL ?_; (case aP => exact rfl); (case aB => exact bB); (case aF => exact (fun _ _ => trivial)); (case aO => exact (rR HO_8.out)); (case aS => exact (below_size bB)); (case aL => have := LMc21.out; omega); intro v372 w22 ho hb hg hat; rw [← Ny371.out] at ho; have n0_ := Aside0.mk (hb); have n1_ := Aside0.mk (ho); clear HB; clear HO_8; have HB := n0_; have HO373 := n1_; clear n0_ n1_; clear ho hb hg hat))
            go_roundg k2
            case measure => have := HJ3.out; have := HK2.out; omega
            case rel => exact ⟨(y371), (wrap64 (x31_2 + 1)), eE, H', ⟨by have := HJ3.out; have := HK2.out; omega⟩, ⟨rR HO373.out⟩, ⟨bB⟩⟩
           ·
            rw [if_neg c21] at H
            exact absurd H (by simp)
         ·
          rw [if_neg c19] at H
          exact absurd H (by simp)
        ·
         rw [if_neg c18] at H
         exact absurd H (by simp)
       ·
        rw [if_neg c17] at H
        have c17b0 : decide (x31_2 < (l0.length : Int)) = false := decide_eq_false c17
        clear c17
        simp only [Option.some.injEq, Prod.mk.injEq] at H
        obtain ⟨rfl, rfl⟩ := H
        go_wp2
        go_ret2
        exact ⟨_, wE, rR HO_8.out, bB⟩

/-! ### spec_BoxesFor: function 24 -/
mutual
def spec_BoxesFor.j0 : Nat → List Int → Int → Int → List Int → Bool → Option (List Int × Int)
 | 0, _, _, _, _, _ => none
 | k + 1, x0, x1, x2, x8, x9 => spec_BoxesFor.l0 k x0 x1 x2 x8 x9 0
def spec_BoxesFor.l0 : Nat → List Int → Int → Int → List Int → Bool → Int → Option (List Int × Int)
 | 0, _, _, _, _, _, _ => none
 | k + 1, x0, x1, x2, x8, x9, x10 => if x10 < (x0.length : Int) then (if x9 = true then (if 0 ≤ x10 then ((spec_l03High.f (rd x0 x10)).bind fun t380 => (spec_BoxesFor.l0 k x0 x1 x2 x8 t380 (wrap64 (x10 + 1)))) else (none)) else (spec_BoxesFor.l0 k x0 x1 x2 x8 false (wrap64 (x10 + 1)))) else (if x9 = true then (if (x0.length : Int) > 30 then (some (x8, 3)) else (spec_BoxesFor.l1 k x0 x1 x2 x8 0)) else (some (x8, 2)))
def spec_BoxesFor.l1 : Nat → List Int → Int → Int → List Int → Int → Option (List Int × Int)
 | 0, _, _, _, _, _ => none
 | k + 1, x0, x1, x2, x8, x11 => if x11 < (x0.length : Int) then (if 0 ≤ x11 then (if x2 = 0 then (none) else (if x8.length < 17592186044416 then (spec_BoxesFor.l1 k x0 x1 x2 (x8 ++ [wrap64 (Int.tdiv (wrap64 ((wrap64 ((wrap64 ((rd x0 x11) * x1)) + x2)) - 1)) x2)]) (wrap64 (x11 + 1))) else (none))) else (none)) else (some (x8, 0))
end
def spec_BoxesFor.f (k : Nat) (l0 : List Int) (a1 : Int) (a2 : Int) : Option (List Int × Int) := (some (([] : List Int) : List Int)).bind fun y374 => ((spec_l00In.f a1 0 100).bind fun t377 => (if t377 = true then ((spec_l00In.f a2 1 10000).bind fun t378 => (spec_BoxesFor.j0 k l0 a1 a2 y374 t378)) else (spec_BoxesFor.j0 k l0 a1 a2 y374 false)))
set_option maxHeartbeats 8000000 in
set_option maxRecDepth 100000 in
theorem spec_BoxesFor.calls (k : Nat) (A0 : Option Addr) (c0 : Nat) (l0 : List Int) (a1 : Int) (a2 : Int) (r1 : List Int) (r2 : Int) (w : World) (hr0 : Kd.C (Kd.int .i64) w A0 l0.length l0) (hc0 : l0.length ≤ c0) (h : spec_BoxesFor.f k l0 a1 a2 = some (r1, r2)) :
  Calls Tryz.prog 24 #[.slice A0 l0.length c0, .int .i64 a1, .int .i64 a2] w fun e w' => ∃ v0_ : Value, e = .returned (.tuple #[v0_, .int .i64 r2]) ∧ Kd.R (Kd.int .i64) 2 w' w.heap.size (fun _ => True) v0_ r1 ∧ Below w.heap.size w w' := by
 have HR0 := Aside0.mk hr0
 have HC0 := Aside0.mk hc0
 clear hr0 hc0
 have HB := Aside0.mk (Below.refl w.heap.size w)
 have H : ((some (([] : List Int) : List Int)).bind fun y374 => ((spec_l00In.f a1 0 100).bind fun t377 => (if t377 = true then ((spec_l00In.f a2 1 10000).bind fun t378 => (spec_BoxesFor.j0 k l0 a1 a2 y374 t378)) else (spec_BoxesFor.j0 k l0 a1 a2 y374 false)))) = some (r1, r2) := h
 clear h
 obtain ⟨y374, hy374⟩ : ∃ y_ : List Int, y_ = (([] : List Int)) := ⟨_, rfl⟩
 replace H : ((spec_l00In.f a1 0 100).bind fun t377 => (if t377 = true then ((spec_l00In.f a2 1 10000).bind fun t378 => (spec_BoxesFor.j0 k l0 a1 a2 y374 t378)) else (spec_BoxesFor.j0 k l0 a1 a2 y374 false))) = some (r1, r2) := by first | (rw [hy374]; with_reducible exact H) | (have H2_ := (Option.bind_some _ _).symm.trans H; rw [hy374]; with_reducible exact H2_) | (have H2_ := (Option.bind_some _ _).symm.trans H; with_reducible exact H2_) | with_reducible exact H | (rw [hy374]; exact H) | exact H
 have Ny374 := Aside0.mk hy374
 clear hy374
 have HC4 := Aside0.mk H
 clear H
 go_enter Tryz.func24, Tryz.ntmps24
 go_upto_region 2 with (first | ((with_reducible refine gate_dst (N := 12) rfl ?_); refine Kd.R_lit (Kd.int .i64) _ 2 ?hg (N := 12) ?hd (xs := ([] : List Int)) (inner := []) (ok := fun _ => True) (okp := fun _ => True) ?hr ?hp (fun _ hk => hk) trivial (Below.refl _ _) (Nat.le_refl _) (by simp) ?_; (case hd => rfl); (case hg => rfl); (case hr => first | (go_simp; done) | (go_simp; rfl)); (case hp => exact (Reps.none _ _)); intro v375 w5 ho6 hb hg_ hnew_; clear hg_ hnew_; (first | rw [← Ny374.out] at ho6 | (simp only [Int.reduceToNat] at ho6; rw [← Ny374.out] at ho6)); have n0_ := Aside0.mk (Kd.R_lower ho6 (below_size bB)); have n1_ := Aside0.mk (below_step bB hb); clear HB; have HO376 := n0_; have HB := n1_; clear n0_ n1_; clear hb ho6))
 (try simp only [Act.put, List.setIfInBounds_toArray, List.set_cons_zero, List.set_cons_succ])
 go_cut [9] (fun v9 wc => ∃ (kq : Nat) (x9_3 : Bool), v9 = .bool x9_3 ∧ Aside0 (spec_BoxesFor.j0 kq l0 a1 a2 y374 x9_3 = some (r1, r2)) ∧ Aside0 (kq ≤ k) ∧ Aside0 (Kd.R (Kd.int .i64) 2 wc w.heap.size (fun _ => True) v375 y374) ∧ Aside0 (Below w.heap.size w wc))
 case first =>
  have H := HC4.out
  clear HC4
  replace H := Option.bind_eq_some_iff.mp H
  obtain ⟨t377, A70, H⟩ := H
  replace H : (if t377 = true then ((spec_l00In.f a2 1 10000).bind fun t378 => (spec_BoxesFor.j0 k l0 a1 a2 y374 t378)) else (spec_BoxesFor.j0 k l0 a1 a2 y374 false)) = some (r1, r2) := H
  have A7 := Aside0.mk A70
  clear A70
  by_cases c8 : t377 = true
  ·
   subst c8
   have H1 : ((spec_l00In.f a2 1 10000).bind fun t378 => (spec_BoxesFor.j0 k l0 a1 a2 y374 t378)) = some (r1, r2) := by rw [if_pos rfl] at H; exact H
   clear H
   have H := H1
   clear H1
   replace H := Option.bind_eq_some_iff.mp H
   obtain ⟨t378, A90, H⟩ := H
   replace H : (spec_BoxesFor.j0 k l0 a1 a2 y374 t378) = some (r1, r2) := H
   have A9 := Aside0.mk A90
   clear A90
   have H' := Aside0.mk H
   clear H
   go_wp2_with (first | ((with_reducible refine gate_callee (f := 59) rfl ?_); refine goesL_ (some 14) rfl rfl Tryz.func59 (by kernel_rfl) rfl #[.int .i64 a1, .int .i64 0, .int .i64 100] rfl aA ?_; (with_reducible refine (spec_l00In.calls a1 0 100 true _ A7.out).mono ?_); rintro e w' ⟨rfl, ⟨nd, rfl⟩⟩; refine ⟨_, rfl, ?_⟩) | (go_at_call 59; (with_reducible refine (spec_l00In.calls a2 1 10000 t378 _ A9.out).mono ?_); rintro e w' ⟨rfl, ⟨nd, rfl⟩⟩))
   go_meet
   case rel => exact ⟨_, (t378), eE, H', ⟨by first | omega | exact Nat.le_refl _⟩, ⟨rR HO376.out⟩, ⟨bB⟩⟩
  ·
   replace c8 := Bool.eq_false_iff.mpr c8
   subst c8
   have H1 : (spec_BoxesFor.j0 k l0 a1 a2 y374 false) = some (r1, r2) := by rw [if_neg (show ¬ (false = true) by decide)] at H; exact H
   clear H
   have H := H1
   clear H1
   have H' := Aside0.mk H
   clear H
   go_wp2_with (first | ((with_reducible refine gate_callee (f := 59) rfl ?_); refine goesL_ (some 14) rfl rfl Tryz.func59 (by kernel_rfl) rfl #[.int .i64 a1, .int .i64 0, .int .i64 100] rfl aA ?_; (with_reducible refine (spec_l00In.calls a1 0 100 false _ A7.out).mono ?_); rintro e w' ⟨rfl, ⟨nd, rfl⟩⟩; refine ⟨_, rfl, ?_⟩))
   go_meet
   case rel => exact ⟨_, (false), eE, H', ⟨by first | omega | exact Nat.le_refl _⟩, ⟨rR HO376.out⟩, ⟨bB⟩⟩
 case rest =>
  clear HC4
  try clear c5
  try clear c8
  obtain ⟨kq, x9_3, rfl, HA, HJ3, HO_8, HB⟩ := hcut
  cases kq with
  | zero => exact absurd HA.out (by simp [spec_BoxesFor.j0])
  | succ kj3 =>
   have H := HA.out
   clear HA
   simp only [spec_BoxesFor.j0] at H
   have H' := Aside0.mk H
   clear H
   go_wp2
   go_loopg [9, 10] kj3 (fun kq v9 v10 w' => ∃ (x9_2 : Bool) (x10_2 : Int), v9 = .bool x9_2 ∧ v10 = .int .i64 x10_2 ∧ Aside0 (spec_BoxesFor.l0 kq l0 a1 a2 y374 x9_2 x10_2 = some (r1, r2)) ∧ Aside0 (kq ≤ kj3) ∧ Aside0 (Kd.R (Kd.int .i64) 2 w' w.heap.size (fun _ => True) v375 y374) ∧ Aside0 (Below w.heap.size w w'))
   case atStart => exact ⟨(x9_3), (0), eE, eE, H', ⟨Nat.le_refl _⟩, ⟨rR HO_8.out⟩, ⟨bB⟩⟩
   case round =>
    clear H'
    try clear c5
    try clear c8
    obtain ⟨x9_2, x10_2, rfl, rfl, HA, HK2, HO_8, HB⟩ := hrel
    cases gk with
    | zero => exact absurd HA.out (by simp [spec_BoxesFor.l0])
    | succ k2 =>
     have H := HA.out
     clear HA
     simp only [spec_BoxesFor.l0] at H
     by_cases c10 : x10_2 < (l0.length : Int)
     ·
      rw [if_pos c10] at H
      have c10b0 : decide (x10_2 < (l0.length : Int)) = true := decide_eq_true c10
      clear c10
      by_cases c11 : x9_2 = true
      ·
       subst c11
       have H1 : (if 0 ≤ x10_2 then ((spec_l03High.f (rd l0 x10_2)).bind fun t380 => (spec_BoxesFor.l0 k2 l0 a1 a2 y374 t380 (wrap64 (x10_2 + 1)))) else (none)) = some (r1, r2) := by rw [if_pos rfl] at H; exact H
       clear H
       have H := H1
       clear H1
       by_cases c12 : 0 ≤ x10_2
       ·
        rw [if_pos c12] at H
        have c12b0 : decide (0 ≤ x10_2) = true := decide_eq_true c12
        clear c12
        replace H := Option.bind_eq_some_iff.mp H
        obtain ⟨t380, A130, H⟩ := H
        replace H : (spec_BoxesFor.l0 k2 l0 a1 a2 y374 t380 (wrap64 (x10_2 + 1))) = some (r1, r2) := H
        have A13 := Aside0.mk A130
        clear A130
        have H' := Aside0.mk H
        clear H
        have p379 : 0 ≤ (x10_2 : Int) := dD
        have q379 : x10_2 < (l0.length : Int) := dD
        obtain ⟨ad379, e379, hx379_0⟩ := Kd.at_int HR0.out x10_2 p379 q379
        cases e379
        replace hx379_0 := (HB.out.cell (World.block_lt_of_cell? w _ hx379_0)).trans hx379_0
        replace p379 := eq_true p379
        replace q379 := eq_true q379
        go_wp2_with (first | (go_at_call 49; (with_reducible refine (spec_l03High.calls (rd l0 x10_2) t380 _ A13.out).mono ?_); rintro e w' ⟨rfl, ⟨nd, rfl⟩⟩))
        go_roundg k2
        case measure => have := HJ3.out; have := HK2.out; omega
        case rel => exact ⟨(t380), (wrap64 (x10_2 + 1)), eE, eE, H', ⟨by have := HJ3.out; have := HK2.out; omega⟩, ⟨rR HO_8.out⟩, ⟨bB⟩⟩
       ·
        rw [if_neg c12] at H
        exact absurd H (by simp)
      ·
       replace c11 := Bool.eq_false_iff.mpr c11
       subst c11
       have H1 : (spec_BoxesFor.l0 k2 l0 a1 a2 y374 false (wrap64 (x10_2 + 1))) = some (r1, r2) := by rw [if_neg (show ¬ (false = true) by decide)] at H; exact H
       clear H
       have H := H1
       clear H1
       have H' := Aside0.mk H
       clear H
       go_wp2
       go_roundg k2
       case measure => have := HJ3.out; have := HK2.out; omega
       case rel => exact ⟨(false), (wrap64 (x10_2 + 1)), eE, eE, H', ⟨by have := HJ3.out; have := HK2.out; omega⟩, ⟨rR HO_8.out⟩, ⟨bB⟩⟩
     ·
      rw [if_neg c10] at H
      have c10b0 : decide (x10_2 < (l0.length : Int)) = false := decide_eq_false c10
      clear c10
      by_cases c14 : x9_2 = true
      ·
       subst c14
       have H1 : (if (l0.length : Int) > 30 then (some (y374, 3)) else (spec_BoxesFor.l1 k2 l0 a1 a2 y374 0)) = some (r1, r2) := by rw [if_pos rfl] at H; exact H
       clear H
       have H := H1
       clear H1
       by_cases c15 : (l0.length : Int) > 30
       ·
        rw [if_pos c15] at H
        have c15b0 : decide (30 < (l0.length : Int)) = true := decide_eq_true c15
        have c15b1 : decide (30 < l0.length) = true := decide_eq_true (by omega)
        clear c15
        simp only [Option.some.injEq, Prod.mk.injEq] at H
        obtain ⟨rfl, rfl⟩ := H
        go_wp2
        go_ret2
        exact ⟨_, wE, rR HO_8.out, bB⟩
       ·
        rw [if_neg c15] at H
        have c15b0 : decide (30 < (l0.length : Int)) = false := decide_eq_false c15
        have c15b1 : decide (30 < l0.length) = false := decide_eq_false (by omega)
        clear c15
        have H' := Aside0.mk H
        clear H
        go_wp2
        go_loopg [8, 11] k2 (fun kq v8 v11 w' => ∃ (x8_3 : List Int) (x11_3 : Int), v11 = .int .i64 x11_3 ∧ Aside0 (spec_BoxesFor.l1 kq l0 a1 a2 x8_3 x11_3 = some (r1, r2)) ∧ Aside0 (kq ≤ k2) ∧ Aside0 (Kd.R (Kd.int .i64) 2 w' w.heap.size (fun _ => True) v8 x8_3) ∧ Aside0 (Below w.heap.size w w'))
        case atStart => exact ⟨(y374), (0), eE, H', ⟨Nat.le_refl _⟩, ⟨rR HO_8.out⟩, ⟨bB⟩⟩
        case round =>
         clear H'
         try clear c5
         try clear c8
         try clear c10
         try clear c10b0
         try clear c11
         try clear c12
         try clear c12b0
         try clear c14
         try clear c15
         try clear c15b0
         try clear c15b1
         try clear hx379_0
         try clear p379
         try clear q379
         obtain ⟨x8_3, x11_3, rfl, HA, HK3, HO_8, HB⟩ := hrel
         cases gk with
         | zero => exact absurd HA.out (by simp [spec_BoxesFor.l1])
         | succ k3 =>
          have H := HA.out
          clear HA
          simp only [spec_BoxesFor.l1] at H
          by_cases c16 : x11_3 < (l0.length : Int)
          ·
           rw [if_pos c16] at H
           have c16b0 : decide (x11_3 < (l0.length : Int)) = true := decide_eq_true c16
           clear c16
           by_cases c17 : 0 ≤ x11_3
           ·
            rw [if_pos c17] at H
            have c17b0 : decide (0 ≤ x11_3) = true := decide_eq_true c17
            clear c17
            by_cases c18 : a2 = 0
            ·
             rw [if_pos c18] at H
             exact absurd H (by simp)
            ·
             rw [if_neg c18] at H
             have c18b0 : (a2 == 0) = false := beq_eq_false_iff_ne.mpr c18
             have c18b1 : (a2 != 0) = true := bne_iff_ne.mpr c18
             by_cases c19 : x8_3.length < 17592186044416
             ·
              rw [if_pos c19] at H
              have LMc19 := Aside0.mk c19
              clear c19
              obtain ⟨y382, hy382⟩ : ∃ y_ : List Int, y_ = (x8_3 ++ [wrap64 (Int.tdiv (wrap64 ((wrap64 ((wrap64 ((rd l0 x11_3) * a1)) + a2)) - 1)) a2)]) := ⟨_, rfl⟩
              replace H : (spec_BoxesFor.l1 k3 l0 a1 a2 y382 (wrap64 (x11_3 + 1))) = some (r1, r2) := by first | (rw [hy382]; with_reducible exact H) | (have H2_ := (Option.bind_some _ _).symm.trans H; rw [hy382]; with_reducible exact H2_) | (have H2_ := (Option.bind_some _ _).symm.trans H; with_reducible exact H2_) | with_reducible exact H | (rw [hy382]; exact H) | exact H
              have Ny382 := Aside0.mk hy382
              clear hy382
              have H' := Aside0.mk H
              clear H
              have p381 : 0 ≤ (x11_3 : Int) := dD
              have q381 : x11_3 < (l0.length : Int) := dD
              obtain ⟨ad381, e381, hx381_0⟩ := Kd.at_int HR0.out x11_3 p381 q381
              cases e381
              replace hx381_0 := (HB.out.cell (World.block_lt_of_cell? w _ hx381_0)).trans hx381_0
              replace p381 := eq_true p381
              replace q381 := eq_true q381
              go_wp2_with (first | ((with_reducible refine gate_builtin (b := .append) (xs := #[.tmp 46, .tmp 58]) rfl ?_); at_builtin; refine Kd.R_append (Kd.int .i64) (w0 := w) w.heap.size rfl (.tmp 46) (.tmp 58) 26 2 (.int .i64 0) 8 rfl Tryz.underlying26 info2 rfl (by decide) (by omega) u8 x8_3 (wrap64 (Int.tdiv (wrap64 ((wrap64 ((wrap64 ((rd l0 x11_3) * a1)) + a2)) - 1)) a2)) [.int .i64 (wrap64 (Int.tdiv (wrap64 ((wrap64 ((wrap64 ((rd l0 x11_3) * a1)) + a2)) - 1)) a2))] (fun _ => True) (fun _ => False) rfl rfl ?aP (fun _ hk => hk.elim) ?aF ?aO ?aB ?aS ?aL ?_; (case aP => exact rfl); (case aB => exact bB); (case aF => exact (fun _ _ => trivial)); (case aO => exact (rR HO_8.out)); (case aS => exact (below_size bB)); (case aL => have := LMc19.out; omega); intro v383 w20 ho hb hg hat; rw [← Ny382.out] at ho; have n0_ := Aside0.mk (hb); have n1_ := Aside0.mk (ho); clear HB; clear HO_8; have HB := n0_; have HO384 := n1_; clear n0_ n1_; clear ho hb hg hat))
              go_roundg k3
              case measure => have := HJ3.out; have := HK2.out; have := HK3.out; omega
              case rel => exact ⟨(y382), (wrap64 (x11_3 + 1)), eE, H', ⟨by have := HJ3.out; have := HK2.out; have := HK3.out; omega⟩, ⟨rR HO384.out⟩, ⟨bB⟩⟩
             ·
              rw [if_neg c19] at H
              exact absurd H (by simp)
           ·
            rw [if_neg c17] at H
            exact absurd H (by simp)
          ·
           rw [if_neg c16] at H
           have c16b0 : decide (x11_3 < (l0.length : Int)) = false := decide_eq_false c16
           clear c16
           simp only [Option.some.injEq, Prod.mk.injEq] at H
           obtain ⟨rfl, rfl⟩ := H
           go_wp2
           go_ret2
           exact ⟨_, wE, rR HO_8.out, bB⟩
      ·
       replace c14 := Bool.eq_false_iff.mpr c14
       subst c14
       have H1 : (some (y374, 2)) = some (r1, r2) := by rw [if_neg (show ¬ (false = true) by decide)] at H; exact H
       clear H
       have H := H1
       clear H1
       simp only [Option.some.injEq, Prod.mk.injEq] at H
       obtain ⟨rfl, rfl⟩ := H
       go_wp2
       go_ret2
       exact ⟨_, wE, rR HO_8.out, bB⟩

/-! ### impl_DriestSpell: function 25 -/
mutual
def impl_DriestSpell.l0 : Nat → List (S43) → Int → Int → Int → Int → Option (Int × Int × Int)
 | 0, _, _, _, _, _ => none
 | k + 1, x0, x5, x6, x13, x14 => if x14 < x13 then (impl_DriestSpell.l1 k x0 x5 x6 x14 0 x13 x14) else (if x6 = 0 then (some (0, 0, 6)) else (some (x5, x6, 0)))
def impl_DriestSpell.l1 : Nat → List (S43) → Int → Int → Int → Int → Int → Int → Option (Int × Int × Int)
 | 0, _, _, _, _, _, _, _ => none
 | k + 1, x0, x5, x6, x7, x8, x13, x14 => if (wrap64 (x7 + x8)) < (x0.length : Int) then (if 0 ≤ (wrap64 (x7 + x8)) then (if ((rd_T43 x0 (wrap64 (x7 + x8))).f0) = 0 then (impl_DriestSpell.l1 k x0 x5 x6 x7 (wrap64 (x8 + 1)) x13 x14) else (if x8 > x6 then (impl_DriestSpell.l0 k x0 x7 x8 x13 (wrap64 (x14 + 1))) else (impl_DriestSpell.l0 k x0 x5 x6 x13 (wrap64 (x14 + 1))))) else (none)) else (if x8 > x6 then (impl_DriestSpell.l0 k x0 x7 x8 x13 (wrap64 (x14 + 1))) else (impl_DriestSpell.l0 k x0 x5 x6 x13 (wrap64 (x14 + 1))))
end
def impl_DriestSpell.f (k : Nat) (l0 : List (S43)) : Option (Int × Int × Int) := (impl_ValidWeather.f k l0).bind fun t385 => (if t385 = true then (impl_DriestSpell.l0 k l0 0 0 (l0.length : Int) 0) else (some (0, 0, 1)))
set_option maxHeartbeats 8000000 in
set_option maxRecDepth 100000 in
theorem impl_DriestSpell.calls (k : Nat) (A0 : Option Addr) (c0 : Nat) (l0 : List (S43)) (r1 : Int) (r2 : Int) (r3 : Int) (w : World) (hr0 : Kd.C k43 w A0 l0.length l0) (hc0 : l0.length ≤ c0) (h : impl_DriestSpell.f k l0 = some (r1, r2, r3)) :
  Calls Tryz.prog 25 #[.slice A0 l0.length c0] w fun e w' => e = .returned (.tuple #[.int .i64 r1, .int .i64 r2, .int .i64 r3]) ∧ Below w.heap.size w w' := by
 have HR0 := Aside0.mk hr0
 have HC0 := Aside0.mk hc0
 clear hr0 hc0
 have HB := Aside0.mk (Below.refl w.heap.size w)
 have H : ((impl_ValidWeather.f k l0).bind fun t385 => (if t385 = true then (impl_DriestSpell.l0 k l0 0 0 (l0.length : Int) 0) else (some (0, 0, 1)))) = some (r1, r2, r3) := h
 clear h
 replace H := Option.bind_eq_some_iff.mp H
 obtain ⟨t385, A20, H⟩ := H
 replace H : (if t385 = true then (impl_DriestSpell.l0 k l0 0 0 (l0.length : Int) 0) else (some (0, 0, 1))) = some (r1, r2, r3) := H
 have A2 := Aside0.mk A20
 clear A20
 by_cases c3 : t385 = true
 ·
  subst c3
  have H1 : (impl_DriestSpell.l0 k l0 0 0 (l0.length : Int) 0) = some (r1, r2, r3) := by rw [if_pos rfl] at H; exact H
  clear H
  have H := H1
  clear H1
  have H' := Aside0.mk H
  clear H
  go_enter Tryz.func25, Tryz.ntmps25
  go_wp2_with (first | ((with_reducible refine gate_callee (f := 18) rfl ?_); refine goesL_ (some 10) rfl rfl Tryz.func18 (by kernel_rfl) rfl #[.slice A0 l0.length c0] rfl aA ?_; (with_reducible refine (impl_ValidWeather.calls k _ _ l0 true _ ?side1 ?side2 A2.out).mono ?_); (case side1 => repeat (first | exact HR0.out | (with_reducible refine Kd.C_alloc ?_ _) | (with_reducible refine Kd.C_drewN ?_ _) | (with_reducible refine Kd.C_drew ?_))); (case side2 => exact HC0.out); rintro e w4 ⟨rfl, hb⟩; refine ⟨_, rfl, ?_⟩; have n0_ := Aside0.mk (below_step bB hb); clear HB; have HB := n0_; clear n0_; (try clear hb); (try clear hb2); (try clear hk); (try clear hi)))
  go_loopg [5, 6, 14] k (fun kq v5 v6 v14 w' => ∃ (x5_1 : Int) (x6_1 : Int) (x14_1 : Int), v5 = .int .i64 x5_1 ∧ v6 = .int .i64 x6_1 ∧ v14 = .int .i64 x14_1 ∧ Aside0 (impl_DriestSpell.l0 kq l0 x5_1 x6_1 (l0.length : Int) x14_1 = some (r1, r2, r3)) ∧ Aside0 (kq ≤ k) ∧ Aside0 (Below w.heap.size w w'))
  case atStart => exact ⟨(0), (0), (0), eE, eE, eE, H', ⟨Nat.le_refl _⟩, ⟨bB⟩⟩
  case round =>
   clear H'
   try clear c3
   obtain ⟨x5_1, x6_1, x14_1, rfl, rfl, rfl, HA, HK1, HB⟩ := hrel
   cases gk with
   | zero => exact absurd HA.out (by simp [impl_DriestSpell.l0])
   | succ k1 =>
    have H := HA.out
    clear HA
    simp only [impl_DriestSpell.l0] at H
    by_cases c5 : x14_1 < (l0.length : Int)
    ·
     rw [if_pos c5] at H
     have c5b0 : decide (x14_1 < (l0.length : Int)) = true := decide_eq_true c5
     clear c5
     have H' := Aside0.mk H
     clear H
     go_wp2
     go_loopg [8] k1 (fun kq v8 w' => ∃ (x8_2 : Int), v8 = .int .i64 x8_2 ∧ Aside0 (impl_DriestSpell.l1 kq l0 x5_1 x6_1 x14_1 x8_2 (l0.length : Int) x14_1 = some (r1, r2, r3)) ∧ Aside0 (kq ≤ k1) ∧ Aside0 (Below w.heap.size w w'))
     case atStart => exact ⟨(0), eE, H', ⟨Nat.le_refl _⟩, ⟨bB⟩⟩
     case round =>
      clear H'
      try clear c3
      try clear c5
      try clear c5b0
      obtain ⟨x8_2, rfl, HA, HK2, HB⟩ := hrel
      cases gk with
      | zero => exact absurd HA.out (by simp [impl_DriestSpell.l1])
      | succ k2 =>
       have H := HA.out
       clear HA
       simp only [impl_DriestSpell.l1] at H
       by_cases c6 : (wrap64 (x14_1 + x8_2)) < (l0.length : Int)
       ·
        rw [if_pos c6] at H
        have c6b0 : decide ((wrap64 (x14_1 + x8_2)) < (l0.length : Int)) = true := decide_eq_true c6
        clear c6
        obtain ⟨ji7, hji7⟩ : ∃ j_ : Int, (wrap64 (x14_1 + x8_2)) = j_ := ⟨_, rfl⟩
        replace H : (if 0 ≤ (ji7) then (if ((rd_T43 l0 (ji7)).f0) = 0 then (impl_DriestSpell.l1 k2 l0 x5_1 x6_1 x14_1 (wrap64 (x8_2 + 1)) (l0.length : Int) x14_1) else (if x8_2 > x6_1 then (impl_DriestSpell.l0 k2 l0 x14_1 x8_2 (l0.length : Int) (wrap64 (x14_1 + 1))) else (impl_DriestSpell.l0 k2 l0 x5_1 x6_1 (l0.length : Int) (wrap64 (x14_1 + 1))))) else (none)) = some (r1, r2, r3) := by first | (rw [hji7] at H; exact H) | (simp only [hji7] at H ⊢; exact H)
        (try rw [hji7] at c6b0)
        have hji7w : (IntKind.i64.wrap (x14_1 + x8_2)) = ji7 := (i64_w _).trans hji7
        by_cases c8 : 0 ≤ (ji7)
        ·
         rw [if_pos c8] at H
         have c8b0 : decide (0 ≤ (ji7)) = true := decide_eq_true c8
         clear c8
         by_cases c9 : ((rd_T43 l0 (ji7)).f0) = 0
         ·
          rw [if_pos c9] at H
          have c9b0 : (((rd_T43 l0 (ji7)).f0) == 0) = true := beq_iff_eq.mpr c9
          have c9b1 : (((rd_T43 l0 (ji7)).f0) != 0) = false := bne_eq_false_iff_eq.mpr c9
          clear c9
          have H' := Aside0.mk H
          clear H
          have p386 : 0 ≤ ((ji7) : Int) := dD
          have q386 : (ji7) < (l0.length : Int) := dD
          obtain ⟨ad386, e386, hx386_0, hx386_1⟩ := at_T43 HR0.out (ji7) p386 q386
          cases e386
          replace hx386_0 := (HB.out.cell (World.block_lt_of_cell? w _ hx386_0)).trans hx386_0
          replace hx386_1 := (HB.out.cell (World.block_lt_of_cell? w _ hx386_1)).trans hx386_1
          replace p386 := eq_true p386
          replace q386 := eq_true q386
          go_wp2
          go_roundg k2
          case measure => have := HK1.out; have := HK2.out; omega
          case rel => exact ⟨(wrap64 (x8_2 + 1)), eE, H', ⟨by have := HK1.out; have := HK2.out; omega⟩, ⟨bB⟩⟩
         ·
          rw [if_neg c9] at H
          have c9b0 : (((rd_T43 l0 (ji7)).f0) == 0) = false := beq_eq_false_iff_ne.mpr c9
          have c9b1 : (((rd_T43 l0 (ji7)).f0) != 0) = true := bne_iff_ne.mpr c9
          by_cases c10 : x8_2 > x6_1
          ·
           rw [if_pos c10] at H
           have c10b0 : decide (x6_1 < x8_2) = true := decide_eq_true c10
           clear c10
           have H' := Aside0.mk H
           clear H
           have p386 : 0 ≤ ((ji7) : Int) := dD
           have q386 : (ji7) < (l0.length : Int) := dD
           obtain ⟨ad386, e386, hx386_0, hx386_1⟩ := at_T43 HR0.out (ji7) p386 q386
           cases e386
           replace hx386_0 := (HB.out.cell (World.block_lt_of_cell? w _ hx386_0)).trans hx386_0
           replace hx386_1 := (HB.out.cell (World.block_lt_of_cell? w _ hx386_1)).trans hx386_1
           replace p386 := eq_true p386
           replace q386 := eq_true q386
           go_wp2
           go_roundg k2
           case measure => have := HK1.out; have := HK2.out; omega
           case rel => exact ⟨(x14_1), (x8_2), (wrap64 (x14_1 + 1)), eE, eE, eE, H', ⟨by have := HK1.out; have := HK2.out; omega⟩, ⟨bB⟩⟩
          ·
           rw [if_neg c10] at H
           have c10b0 : decide (x6_1 < x8_2) = false := decide_eq_false c10
           clear c10
           have H' := Aside0.mk H
           clear H
           have p386 : 0 ≤ ((ji7) : Int) := dD
           have q386 : (ji7) < (l0.length : Int) := dD
           obtain ⟨ad386, e386, hx386_0, hx386_1⟩ := at_T43 HR0.out (ji7) p386 q386
           cases e386
           replace hx386_0 := (HB.out.cell (World.block_lt_of_cell? w _ hx386_0)).trans hx386_0
           replace hx386_1 := (HB.out.cell (World.block_lt_of_cell? w _ hx386_1)).trans hx386_1
           replace p386 := eq_true p386
           replace q386 := eq_true q386
           go_wp2
           go_roundg k2
           case measure => have := HK1.out; have := HK2.out; omega
           case rel => exact ⟨(x5_1), (x6_1), (wrap64 (x14_1 + 1)), eE, eE, eE, H', ⟨by have := HK1.out; have := HK2.out; omega⟩, ⟨bB⟩⟩
        ·
         rw [if_neg c8] at H
         exact absurd H (by simp)
       ·
        rw [if_neg c6] at H
        have c6b0 : decide ((wrap64 (x14_1 + x8_2)) < (l0.length : Int)) = false := decide_eq_false c6
        clear c6
        by_cases c11 : x8_2 > x6_1
        ·
         rw [if_pos c11] at H
         have c11b0 : decide (x6_1 < x8_2) = true := decide_eq_true c11
         clear c11
         have H' := Aside0.mk H
         clear H
         go_wp2
         go_roundg k2
         case measure => have := HK1.out; have := HK2.out; omega
         case rel => exact ⟨(x14_1), (x8_2), (wrap64 (x14_1 + 1)), eE, eE, eE, H', ⟨by have := HK1.out; have := HK2.out; omega⟩, ⟨bB⟩⟩
        ·
         rw [if_neg c11] at H
         have c11b0 : decide (x6_1 < x8_2) = false := decide_eq_false c11
         clear c11
         have H' := Aside0.mk H
         clear H
         go_wp2
         go_roundg k2
         case measure => have := HK1.out; have := HK2.out; omega
         case rel => exact ⟨(x5_1), (x6_1), (wrap64 (x14_1 + 1)), eE, eE, eE, H', ⟨by have := HK1.out; have := HK2.out; omega⟩, ⟨bB⟩⟩
    ·
     rw [if_neg c5] at H
     have c5b0 : decide (x14_1 < (l0.length : Int)) = false := decide_eq_false c5
     clear c5
     by_cases c12 : x6_1 = 0
     ·
      rw [if_pos c12] at H
      have c12b0 : (x6_1 == 0) = true := beq_iff_eq.mpr c12
      have c12b1 : (x6_1 != 0) = false := bne_eq_false_iff_eq.mpr c12
      clear c12
      simp only [Option.some.injEq, Prod.mk.injEq] at H
      obtain ⟨rfl, rfl, rfl⟩ := H
      go_wp2
      go_ret3
      exact ⟨wE, bB⟩
     ·
      rw [if_neg c12] at H
      have c12b0 : (x6_1 == 0) = false := beq_eq_false_iff_ne.mpr c12
      have c12b1 : (x6_1 != 0) = true := bne_iff_ne.mpr c12
      simp only [Option.some.injEq, Prod.mk.injEq] at H
      obtain ⟨rfl, rfl, rfl⟩ := H
      go_wp2
      go_ret3
      exact ⟨wE, bB⟩
 ·
  replace c3 := Bool.eq_false_iff.mpr c3
  subst c3
  have H1 : (some (0, 0, 1)) = some (r1, r2, r3) := by rw [if_neg (show ¬ (false = true) by decide)] at H; exact H
  clear H
  have H := H1
  clear H1
  simp only [Option.some.injEq, Prod.mk.injEq] at H
  obtain ⟨rfl, rfl, rfl⟩ := H
  go_enter Tryz.func25, Tryz.ntmps25
  go_wp2_with (first | ((with_reducible refine gate_callee (f := 18) rfl ?_); refine goesL_ (some 10) rfl rfl Tryz.func18 (by kernel_rfl) rfl #[.slice A0 l0.length c0] rfl aA ?_; (with_reducible refine (impl_ValidWeather.calls k _ _ l0 false _ ?side1 ?side2 A2.out).mono ?_); (case side1 => repeat (first | exact HR0.out | (with_reducible refine Kd.C_alloc ?_ _) | (with_reducible refine Kd.C_drewN ?_ _) | (with_reducible refine Kd.C_drew ?_))); (case side2 => exact HC0.out); rintro e w13 ⟨rfl, hb⟩; refine ⟨_, rfl, ?_⟩; have n0_ := Aside0.mk (below_step bB hb); clear HB; have HB := n0_; clear n0_; (try clear hb); (try clear hb2); (try clear hk); (try clear hi)))
  go_ret3
  exact ⟨wE, bB⟩

end Go.Proofs.YtibpndhcijmhpaaGreatDoor.QG
