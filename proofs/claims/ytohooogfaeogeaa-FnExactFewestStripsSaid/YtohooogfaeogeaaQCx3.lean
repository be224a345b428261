/- Walks: printed by a program of this session; nothing here is trusted. -/
import Derived.Test.YtohooogfaeogeaaQCx0
import Derived.Test.YtohooogfaeogeaaQCx1
import Derived.Test.YtohooogfaeogeaaQCx2
namespace Go.Proofs.Ytohooogfaeogeaa.QC
open Go.RowKit Go.Proofs.YtohooogfaeogeaaW.PrintWords Go.Proofs.YtohooogfaeogeaaW.PrintLast Go.Proofs.YtohooogfaeogeaaW.PrintMore
attribute [local go_sem] max2_int min2_int max_two min_two max_three min_three max_four min_four   -- for this text's walks alone
set_option linter.unusedVariables false
set_option linter.unusedSimpArgs false

/-! ### spec_FewestStrips: function 11 -/
mutual
def spec_FewestStrips.l0 : Nat → List Int → Int → Int → Option (List Int × Int × Int)
  | 0, _, _, _ => none
  | k + 1, x0, x1, x8 => if 0 ≤ x8 then (if (x8 : Int).toNat ≤ 35184372088832 then (spec_FewestStrips.l1 k x0 x1 x8 (List.replicate (x8 : Int).toNat 0) 0) else (none)) else (none)
def spec_FewestStrips.l1 : Nat → List Int → Int → Int → List Int → Int → Option (List Int × Int × Int)
  | 0, _, _, _, _, _ => none
  | k + 1, x0, x1, x8, x9, x10 => if x10 < x8 then (if 0 ≤ x10 then (if x10 < (x9.length : Int) then (spec_FewestStrips.l1 k x0 x1 x8 (x9.set (x10 : Int).toNat x1) (wrap64 (x10 + 1))) else (none)) else (none)) else ((spec_l05Fit.f k x0 x9 (([] : List Int)) 0).bind fun bt154 => (if bt154.2 = true then (some (bt154.1, x8, 0)) else (spec_FewestStrips.l0 k x0 x1 (wrap64 (x8 + 1)))))
end
def spec_FewestStrips.f (k : Nat) (l0 : List Int) (a1 : Int) : Option (List Int × Int × Int) := (spec_l05Pieces.f k l0 a1).bind fun t143 => (if t143 = 0 then (spec_FewestStrips.l0 k l0 a1 0) else (some ((([] : List Int)), 0, t143)))
theorem spec_FewestStrips.mono_l : ∀ k, (∀ y0 y1 y2, LeO (spec_FewestStrips.l0 k y0 y1 y2) (spec_FewestStrips.l0 (k + 1) y0 y1 y2)) ∧ (∀ y0 y1 y2 y3 y4, LeO (spec_FewestStrips.l1 k y0 y1 y2 y3 y4) (spec_FewestStrips.l1 (k + 1) y0 y1 y2 y3 y4))
  | 0 => ⟨fun _ _ _ r h => by simp [spec_FewestStrips.l0] at h, fun _ _ _ _ _ r h => by simp [spec_FewestStrips.l1] at h⟩
  | k + 1 => by
    obtain ⟨ih0, ih1⟩ := spec_FewestStrips.mono_l k
    refine ⟨?_, ?_⟩
    · intro y0 y1 y2
      unfold spec_FewestStrips.l0
      repeat' first
      | (with_reducible exact ih0 _ _ _)
      | (with_reducible exact ih1 _ _ _ _ _)
      | (with_reducible exact spec_l05Fit.mono _ _ _ _ _)
      | (with_reducible exact spec_l05Pieces.mono _ _ _)
      | (with_reducible exact LeO.refl _)
      | (with_reducible exact LeO.none _)
      | (with_reducible refine LeO.ite ?_ ?_)
      | (with_reducible refine LeO.bind ?_ (fun _ => ?_))
      | exact ih0 _ _ _
      | exact ih1 _ _ _ _ _
      | exact spec_l05Fit.mono _ _ _ _ _
      | exact spec_l05Pieces.mono _ _ _
      | exact LeO.none _
      | refine LeO.ite ?_ ?_
      | refine LeO.bind ?_ (fun _ => ?_)
    · intro y0 y1 y2 y3 y4
      unfold spec_FewestStrips.l1
      repeat' first
      | (with_reducible exact ih0 _ _ _)
      | (with_reducible exact ih1 _ _ _ _ _)
      | (with_reducible exact spec_l05Fit.mono _ _ _ _ _)
      | (with_reducible exact spec_l05Pieces.mono _ _ _)
      | (with_reducible exact LeO.refl _)
      | (with_reducible exact LeO.none _)
      | (with_reducible refine LeO.ite ?_ ?_)
      | (with_reducible refine LeO.bind ?_ (fun _ => ?_))
      | exact ih0 _ _ _
      | exact ih1 _ _ _ _ _
      | exact spec_l05Fit.mono _ _ _ _ _
      | exact spec_l05Pieces.mono _ _ _
      | exact LeO.none _
      | refine LeO.ite ?_ ?_
      | refine LeO.bind ?_ (fun _ => ?_)
theorem spec_FewestStrips.mono : ∀ a0 a1 k, LeO (spec_FewestStrips.f k a0 a1) (spec_FewestStrips.f (k + 1) a0 a1) := by
  intro a0 a1 k
  obtain ⟨ih0, ih1⟩ := spec_FewestStrips.mono_l k
  unfold spec_FewestStrips.f
  repeat' first
      | (with_reducible exact ih0 _ _ _)
      | (with_reducible exact ih1 _ _ _ _ _)
      | (with_reducible exact spec_l05Fit.mono _ _ _ _ _)
      | (with_reducible exact spec_l05Pieces.mono _ _ _)
      | (with_reducible exact LeO.refl _)
      | (with_reducible exact LeO.none _)
      | (with_reducible refine LeO.ite ?_ ?_)
      | (with_reducible refine LeO.bind ?_ (fun _ => ?_))
      | exact ih0 _ _ _
      | exact ih1 _ _ _ _ _
      | exact spec_l05Fit.mono _ _ _ _ _
      | exact spec_l05Pieces.mono _ _ _
      | exact LeO.none _
      | refine LeO.ite ?_ ?_
      | refine LeO.bind ?_ (fun _ => ?_)
set_option maxHeartbeats 8000000 in
set_option maxRecDepth 100000 in
theorem spec_FewestStrips.calls (k : Nat) (A0 : Option Addr) (c0 : Nat) (l0 : List Int) (a1 : Int) (r1 : List Int) (r2 : Int) (r3 : Int) (w : World) (hr0 : Kd.C (Kd.int .i64) w A0 l0.length l0) (hc0 : l0.length ≤ c0) (h : spec_FewestStrips.f k l0 a1 = some (r1, r2, r3)) :
    Calls Try.prog 11 #[.slice A0 l0.length c0, .int .i64 a1] w fun e w' => ∃ v0_ : Value, e = .returned (.tuple #[v0_, .int .i64 r2, .int .i64 r3]) ∧ Kd.R (Kd.int .i64) 2 w' w.heap.size (fun _ => True) v0_ r1 ∧ Below w.heap.size w w' := by
  have HR0 := Aside0.mk hr0
  have HC0 := Aside0.mk hc0
  clear hr0 hc0
  have HB := Aside0.mk (Below.refl w.heap.size w)
  have H : ((spec_l05Pieces.f k l0 a1).bind fun t143 => (if t143 = 0 then (spec_FewestStrips.l0 k l0 a1 0) else (some ((([] : List Int)), 0, t143)))) = some (r1, r2, r3) := h
  clear h
  replace H := Option.bind_eq_some_iff.mp H
  obtain ⟨t143, A30, H⟩ := H
  replace H : (if t143 = 0 then (spec_FewestStrips.l0 k l0 a1 0) else (some ((([] : List Int)), 0, t143))) = some (r1, r2, r3) := H
  have A3 := Aside0.mk A30
  clear A30
  by_cases c4 : t143 = 0
  · rw [if_pos c4] at H
    have c4b0 : (t143 == 0) = true := beq_iff_eq.mpr c4
    have c4b1 : (t143 != 0) = false := bne_eq_false_iff_eq.mpr c4
    clear c4
    have H' := Aside0.mk H
    clear H
    go_enter Try.func11, Try.ntmps11
    go_wp2_with (first | ((with_reducible refine gate_callee (f := 13) rfl ?_); refine goesL_ (some 15) rfl rfl Try.func13 (by kernel_rfl) rfl #[.slice A0 l0.length c0, .int .i64 a1] rfl (by (try simp only [List.map_toArray, List.map_cons, List.map_nil]); first | done | rfl | (simp only [List.length_drop, List.length_take]; rfl)) ?_; (with_reducible refine (spec_l05Pieces.calls k _ _ l0 a1 t143 _ ?side1 ?side2 A3.out).mono ?_); (case side1 => repeat (first | exact HR0.out | (with_reducible refine Kd.C_alloc ?_ _) | (with_reducible refine Kd.C_drewN ?_ _) | (with_reducible refine Kd.C_drew ?_))); (case side2 => exact HC0.out); rintro e w' ⟨rfl, ⟨nd, rfl⟩⟩; refine ⟨_, rfl, ?_⟩))
    go_loopg [8] k (fun kq v8 w' => ∃ (x8_1 : Int), v8 = .int .i64 x8_1 ∧ Aside0 (spec_FewestStrips.l0 kq l0 a1 x8_1 = some (r1, r2, r3)) ∧ Aside0 (kq ≤ k) ∧ Aside0 (Below w.heap.size w w'))
    case atStart => exact ⟨(0), (by first | rfl | (simp; done) | (simp [*]; done)), H', ⟨Nat.le_refl _⟩, ⟨by repeat (first | (with_reducible first | exact HB.out | apply below_alloc | apply pw_below_drewN | apply below_drew1) | exact HB.out)⟩⟩
    case round =>
      clear H'
      try clear c1
      try clear p2
      try clear c4
      try clear c4b0
      try clear c4b1
      obtain ⟨x8_1, rfl, HA, HK1, HB⟩ := hrel
      cases gk with
      | zero => exact absurd HA.out (by simp [spec_FewestStrips.l0])
      | succ k1 =>
        have H := HA.out
        clear HA
        simp only [spec_FewestStrips.l0] at H
        by_cases c5 : 0 ≤ x8_1
        · rw [if_pos c5] at H
          have c5b0 := eq_true c5
          have c5b1 : decide (0 ≤ x8_1) = true := decide_eq_true c5
          clear c5
          by_cases c6 : (x8_1 : Int).toNat ≤ 35184372088832
          · rw [if_pos c6] at H
            have c6b0 := eq_true c6
            have c6b1 : decide ((x8_1 : Int).toNat ≤ 35184372088832) = true := decide_eq_true c6
            clear c6
            obtain ⟨y147, hy147⟩ : ∃ y_ : List Int, y_ = (List.replicate (x8_1 : Int).toNat 0) := ⟨_, rfl⟩
            replace H : (spec_FewestStrips.l1 k1 l0 a1 x8_1 y147 0) = some (r1, r2, r3) := by first | (rw [hy147]; with_reducible exact H) | (have H2_ := (Option.bind_some _ _).symm.trans H; rw [hy147]; with_reducible exact H2_) | (have H2_ := (Option.bind_some _ _).symm.trans H; with_reducible exact H2_) | with_reducible exact H | (rw [hy147]; exact H) | exact H
            have Ny147 := Aside0.mk hy147
            clear hy147
            have H' := Aside0.mk H
            clear H
            go_wp2_with (first | ((with_reducible refine gate_dst (N := 23) rfl ?_); refine Kd.R_make (Kd.int .i64) _ 2 rfl (N := 23) rfl 22 _ _ rfl x8_1 rfl rfl Try.underlying22 (.int .i64 0) 8 info2 rfl (by decide) (by omega) 0 (ok := fun _ => True) (okp := fun _ => True) rfl (fun _ hk => hk) trivial (of_decide_eq_true (by first | (with_reducible assumption) | assumption)) (Nat.le_trans (Nat.mul_le_mul_right _ (of_decide_eq_true (by first | (with_reducible assumption) | assumption) : x8_1.toNat ≤ 35184372088832)) (by omega)) (Below.refl _ _) (Nat.le_refl _) ?_; intro v148 w7 ho8 hb hg_ hnew_; clear hg_ hnew_; (first | rw [← Ny147.out] at ho8 | (simp only [Int.reduceToNat] at ho8; rw [← Ny147.out] at ho8)); have n0_ := Aside0.mk (Kd.R_lower ho8 (below_size (by repeat (first | (with_reducible first | exact HB.out | apply below_alloc | apply pw_below_drewN | apply below_drew1) | exact HB.out)))); have n1_ := Aside0.mk (below_step (by repeat (first | (with_reducible first | exact HB.out | apply below_alloc | apply pw_below_drewN | apply below_drew1) | exact HB.out)) hb); clear HB; have HO149 := n0_; have HB := n1_; clear n0_ n1_; clear hb ho8))
            go_loopg [10] k1 (fun kq v10 w' => ∃ (x9_2 : List Int) (x10_2 : Int), v10 = .int .i64 x10_2 ∧ Aside0 (spec_FewestStrips.l1 kq l0 a1 x8_1 x9_2 x10_2 = some (r1, r2, r3)) ∧ Aside0 (kq ≤ k1) ∧ Aside0 (Kd.R (Kd.int .i64) 2 w' w.heap.size (fun _ => True) v148 x9_2) ∧ Aside0 (Below w.heap.size w w'))
            case atStart => exact ⟨(y147), (0), (by first | rfl | (simp; done) | (simp [*]; done)), H', ⟨Nat.le_refl _⟩, ⟨by (with_reducible repeat (first | apply Kd.R_alloc | apply Kd.R_drewN | apply Kd.R_drew)); exact HO149.out⟩, ⟨by repeat (first | (with_reducible first | exact HB.out | apply below_alloc | apply pw_below_drewN | apply below_drew1) | exact HB.out)⟩⟩
            case round =>
              clear H'
              try clear c1
              try clear p2
              try clear c4
              try clear c4b0
              try clear c4b1
              try clear c5
              try clear c5b0
              try clear c5b1
              try clear c6
              try clear c6b0
              try clear c6b1
              try clear p2
              obtain ⟨x9_2, x10_2, rfl, HA, HK2, HO_9, HB⟩ := hrel
              cases gk with
              | zero => exact absurd HA.out (by simp [spec_FewestStrips.l1])
              | succ k2 =>
                have H := HA.out
                clear HA
                simp only [spec_FewestStrips.l1] at H
                by_cases c9 : x10_2 < x8_1
                · rw [if_pos c9] at H
                  have c9b0 : decide (x10_2 < x8_1) = true := decide_eq_true c9
                  clear c9
                  by_cases c10 : 0 ≤ x10_2
                  · rw [if_pos c10] at H
                    have c10b0 : decide (0 ≤ x10_2) = true := decide_eq_true c10
                    clear c10
                    by_cases c11 : x10_2 < (x9_2.length : Int)
                    · rw [if_pos c11] at H
                      have c11b0 : decide (x10_2 < (x9_2.length : Int)) = true := decide_eq_true c11
                      clear c11
                      obtain ⟨y150, hy150⟩ : ∃ y_ : List Int, y_ = (x9_2.set (x10_2 : Int).toNat a1) := ⟨_, rfl⟩
                      replace H : (spec_FewestStrips.l1 k2 l0 a1 x8_1 y150 (wrap64 (x10_2 + 1))) = some (r1, r2, r3) := by first | (rw [hy150]; with_reducible exact H) | (have H2_ := (Option.bind_some _ _).symm.trans H; rw [hy150]; with_reducible exact H2_) | (have H2_ := (Option.bind_some _ _).symm.trans H; with_reducible exact H2_) | with_reducible exact H | (rw [hy150]; exact H) | exact H
                      have Ny150 := Aside0.mk hy150
                      clear hy150
                      have H' := Aside0.mk H
                      clear H
                      have p12 : 0 ≤ (x10_2 : Int) := of_decide_eq_true (by first | (with_reducible assumption) | assumption)
                      have q12 : (x10_2 : Int) < ((x9_2.length : Int) : Int) := of_decide_eq_true (by first | (with_reducible assumption) | assumption)
                      obtain ⟨go12, co12, eo12, gb12, gl12, cl12, HG12⟩ := Kd.R_form HO_9.out (by omega)
                      (first | cases eo12 | (injection eo12 with ea_ en_ ec_; (first | subst ea_ | (injection ea_ with ea_; subst ea_)); subst ec_; clear en_))
                      have GB12 := Aside0.mk gb12
                      have GG12 := Aside0.mk HG12
                      clear gb12 gl12 HG12
                      obtain ⟨hx12_0, hf12_0⟩ := Kd.R_celln 0 HO_9.out (x10_2 : Int) p12 q12
                      replace p12 := eq_true p12
                      replace q12 := eq_true q12
                      have HP13 := Kd.R_putg HO_9.out (x10_2 : Int) a1
                      go_wp2_with (first | ((with_reducible refine gate_store (t := 2) (p := 32) rfl ?_); refine store_event (t := 2) (p := 32) (v := ?vo_w14) (w1 := (wr.setCell ⟨go12, (x10_2 : Int).toNat, none⟩ (.int .i64 a1))) ?hg ?ho ?hn ?hr ?_; (case ho => rfl); (case hg => rfl); (case hn => rfl); (case hr => first | (go_simp; done) | (go_simp; rfl)); intro w14 hw; have hg : wr.grownBy w14 (some go12) := (by rw [hw]; exact HP13.2); have hp_ : Kd.R (Kd.int .i64) 2 w14 w.heap.size (fun _ => True) (.slice (some ⟨go12, 0, none⟩) x9_2.length co12) y150 := (by rw [hw, Ny150.out]; exact HP13.1); clear HP13; have n0_ := Aside0.mk (hp_); have n1_ := Aside0.mk ((by rw [hw]; exact below_set (HB.out) GB12.out : Below w.heap.size w w14)); clear HO_9; clear HB; have HO_9 := n0_; have HB := n1_; clear n0_ n1_; clear hg hw hp_))
                      go_roundg k2
                      case measure => have := HK1.out; have := HK2.out; omega
                      case rel => exact ⟨(y150), (wrap64 (x10_2 + 1)), (by first | rfl | (simp; done) | (simp [*]; done)), H', ⟨by have := HK1.out; have := HK2.out; omega⟩, ⟨by (with_reducible repeat (first | apply Kd.R_alloc | apply Kd.R_drewN | apply Kd.R_drew)); exact HO_9.out⟩, ⟨by repeat (first | (with_reducible first | exact HB.out | apply below_alloc | apply pw_below_drewN | apply below_drew1) | exact HB.out)⟩⟩
                    · rw [if_neg c11] at H
                      exact absurd H (by simp)
                  · rw [if_neg c10] at H
                    exact absurd H (by simp)
                · rw [if_neg c9] at H
                  have c9b0 : decide (x10_2 < x8_1) = false := decide_eq_false c9
                  clear c9
                  obtain ⟨y151, hy151⟩ : ∃ y_ : List Int, y_ = (([] : List Int)) := ⟨_, rfl⟩
                  replace H : ((spec_l05Fit.f k2 l0 x9_2 y151 0).bind fun bt154 => (if bt154.2 = true then (some (bt154.1, x8_1, 0)) else (spec_FewestStrips.l0 k2 l0 a1 (wrap64 (x8_1 + 1))))) = some (r1, r2, r3) := by first | (rw [hy151]; with_reducible exact H) | (have H2_ := (Option.bind_some _ _).symm.trans H; rw [hy151]; with_reducible exact H2_) | (have H2_ := (Option.bind_some _ _).symm.trans H; with_reducible exact H2_) | with_reducible exact H | (rw [hy151]; exact H) | exact H
                  have Ny151 := Aside0.mk hy151
                  clear hy151
                  replace H := Option.bind_eq_some_iff.mp H
                  obtain ⟨⟨t154, t157⟩, A150, H⟩ := H
                  replace H : (if t157 = true then (some (t154, x8_1, 0)) else (spec_FewestStrips.l0 k2 l0 a1 (wrap64 (x8_1 + 1)))) = some (r1, r2, r3) := H
                  have A15 := Aside0.mk A150
                  clear A150
                  by_cases c16 : t157 = true
                  · subst c16
                    have H1 : (some (t154, x8_1, 0)) = some (r1, r2, r3) := by rw [if_pos rfl] at H; exact H
                    clear H
                    have H := H1
                    clear H1
                    simp only [Option.some.injEq, Prod.mk.injEq] at H
                    obtain ⟨rfl, rfl, rfl⟩ := H
                    go_wp2_with (first | ((with_reducible refine gate_dst (N := 36) rfl ?_); refine Kd.R_lit (Kd.int .i64) _ 2 ?hg (N := 36) ?hd (xs := ([] : List Int)) (inner := []) (ok := fun _ => True) (okp := fun _ => True) ?hr ?hp (fun _ hk => hk) trivial (Below.refl _ _) (Nat.le_refl _) (by simp) ?_; (case hd => rfl); (case hg => rfl); (case hr => first | (go_simp; done) | (go_simp; rfl)); (case hp => exact (Reps.none _ _)); intro v152 w17 ho18 hb hg_ hnew_; clear hg_ hnew_; (first | rw [← Ny151.out] at ho18 | (simp only [Int.reduceToNat] at ho18; rw [← Ny151.out] at ho18)); have n0_ := Aside0.mk (Kd.R_elder' (by (with_reducible repeat (first | apply Kd.R_alloc | apply Kd.R_drewN | apply Kd.R_drew)); exact HO_9.out) (Kd.R_base ho18) hb); have n1_ := Aside0.mk (Kd.R_lower (Kd.R_new' ho18 (Kd.R_lt (by (with_reducible repeat (first | apply Kd.R_alloc | apply Kd.R_drewN | apply Kd.R_drew)); exact HO_9.out))) (below_size (by repeat (first | (with_reducible first | exact HB.out | apply below_alloc | apply pw_below_drewN | apply below_drew1) | exact HB.out)))); have n2_ := Aside0.mk (below_step (by repeat (first | (with_reducible first | exact HB.out | apply below_alloc | apply pw_below_drewN | apply below_drew1) | exact HB.out)) hb); clear HO_9; clear HB; have HO_9 := n0_; have HO153 := n1_; have HB := n2_; clear n0_ n1_ n2_; clear hb ho18; obtain ⟨Ao19, co19, eo19⟩ := Kd.R_slice HO_9.out; subst eo19; obtain ⟨Ao20, co20, eo20⟩ := Kd.R_slice HO153.out; subst eo20) | ((with_reducible refine gate_callee (f := 15) rfl ?_); refine goesL_ (some 37) rfl rfl Try.func15 (by kernel_rfl) rfl #[.slice A0 l0.length c0, .slice Ao19 x9_2.length co19, .slice Ao20 y151.length co20, .int .i64 0] rfl (by (try simp only [List.map_toArray, List.map_cons, List.map_nil]); first | done | rfl | (simp only [List.length_drop, List.length_take]; rfl)) ?_; (with_reducible refine (spec_l05Fit.calls k2 _ _ l0 _ _ x9_2 (fun k_ => some k_ = (.slice Ao20 y151.length co20 : Value).ownBlock) (.slice Ao20 y151.length co20) y151 0 t154 true w _ ?side1 ?side2 ?side3 ?side4 ?side5 ?side6 A15.out).mono ?_); (case side1 => repeat (first | (with_reducible first | exact HB.out | apply below_alloc | apply pw_below_drewN | apply below_drew1) | exact HB.out)); (case side2 => exact Kd.C_kept_came (Kd.heap_int .i64) HR0.out (by repeat (first | (with_reducible first | exact HB.out | apply below_alloc | apply pw_below_drewN | apply below_drew1) | exact HB.out)) (fun k_ hs_ => (fun e_ => Kd.R_base HO153.out k_ e_.symm) hs_)); (case side3 => exact HC0.out); (case side4 => exact Kd.C_kept_own (HO_9.out) (fun k_ hk_ hs_ => (hk_.2) hs_)); (case side5 => exact (Kd.R_reads' HO_9.out).2.1); (case side6 => exact Kd.R_tight rfl HO153.out); rintro e w21 ⟨v155, rfl, ho0, hb, hkp⟩; refine ⟨_, rfl, ?_⟩; have n0_ := Aside0.mk (Kd.R_mono (ok' := fun k_ => some k_ ≠ (v155 : Value).ownBlock) (Kd.R_keptB (HO_9.out) hkp (fun k_ hk_ hs_ => (hk_.2) hs_)) (fun k_ hk_ => fun e_ => Or.elim (ho0.1 k_ e_.symm) (fun hs_ => hk_.2.1 hs_) (fun hn_ => Nat.not_le.2 hk_.2.2 hn_))); have n1_ := Aside0.mk (Kd.R_mono (ok' := fun k_ => some k_ ≠ (.slice Ao19 x9_2.length co19 : Value).ownBlock) ho0 (fun k_ hk_ => Or.elim hk_ (fun hs_ => fun e_ => (((HO_9.out).1 k_ e_.symm).2) hs_) (fun hn_ => (Kd.fresh' (Kd.R_lt (by (with_reducible repeat (first | apply Kd.R_alloc | apply Kd.R_drewN | apply Kd.R_drew)); exact HO_9.out)) k_ hn_)))); have n2_ := Aside0.mk (hb); clear HO_9; clear HB; clear HO153; have HO_9 := n0_; have HO156 := n1_; have HB := n2_; clear n0_ n1_ n2_; (try clear hb); (try clear hkp); (try clear ho0)))
                    go_ret3
                    exact ⟨_, by first | rfl | (simp [errW_none, errW_some] <;> rfl) | (simp [*, errW_none, errW_some] <;> rfl), by (with_reducible repeat (first | apply Kd.R_alloc | apply Kd.R_drewN | apply Kd.R_drew)); exact Kd.R_mono HO156.out (fun _ hk => trivial), by repeat (first | (with_reducible first | exact HB.out | apply below_alloc | apply pw_below_drewN | apply below_drew1) | exact HB.out)⟩
                  · replace c16 := Bool.eq_false_iff.mpr c16
                    subst c16
                    have H1 : (spec_FewestStrips.l0 k2 l0 a1 (wrap64 (x8_1 + 1))) = some (r1, r2, r3) := by rw [if_neg (show ¬ (false = true) by decide)] at H; exact H
                    clear H
                    have H := H1
                    clear H1
                    have H' := Aside0.mk H
                    clear H
                    go_wp2_with (first | ((with_reducible refine gate_dst (N := 36) rfl ?_); refine Kd.R_lit (Kd.int .i64) _ 2 ?hg (N := 36) ?hd (xs := ([] : List Int)) (inner := []) (ok := fun _ => True) (okp := fun _ => True) ?hr ?hp (fun _ hk => hk) trivial (Below.refl _ _) (Nat.le_refl _) (by simp) ?_; (case hd => rfl); (case hg => rfl); (case hr => first | (go_simp; done) | (go_simp; rfl)); (case hp => exact (Reps.none _ _)); intro v152 w22 ho23 hb hg_ hnew_; clear hg_ hnew_; (first | rw [← Ny151.out] at ho23 | (simp only [Int.reduceToNat] at ho23; rw [← Ny151.out] at ho23)); have n0_ := Aside0.mk (Kd.R_elder' (by (with_reducible repeat (first | apply Kd.R_alloc | apply Kd.R_drewN | apply Kd.R_drew)); exact HO_9.out) (Kd.R_base ho23) hb); have n1_ := Aside0.mk (Kd.R_lower (Kd.R_new' ho23 (Kd.R_lt (by (with_reducible repeat (first | apply Kd.R_alloc | apply Kd.R_drewN | apply Kd.R_drew)); exact HO_9.out))) (below_size (by repeat (first | (with_reducible first | exact HB.out | apply below_alloc | apply pw_below_drewN | apply below_drew1) | exact HB.out)))); have n2_ := Aside0.mk (below_step (by repeat (first | (with_reducible first | exact HB.out | apply below_alloc | apply pw_below_drewN | apply below_drew1) | exact HB.out)) hb); clear HO_9; clear HB; have HO_9 := n0_; have HO153 := n1_; have HB := n2_; clear n0_ n1_ n2_; clear hb ho23; obtain ⟨Ao24, co24, eo24⟩ := Kd.R_slice HO_9.out; subst eo24; obtain ⟨Ao25, co25, eo25⟩ := Kd.R_slice HO153.out; subst eo25) | ((with_reducible refine gate_callee (f := 15) rfl ?_); refine goesL_ (some 37) rfl rfl Try.func15 (by kernel_rfl) rfl #[.slice A0 l0.length c0, .slice Ao24 x9_2.length co24, .slice Ao25 y151.length co25, .int .i64 0] rfl (by (try simp only [List.map_toArray, List.map_cons, List.map_nil]); first | done | rfl | (simp only [List.length_drop, List.length_take]; rfl)) ?_; (with_reducible refine (spec_l05Fit.calls k2 _ _ l0 _ _ x9_2 (fun k_ => some k_ = (.slice Ao25 y151.length co25 : Value).ownBlock) (.slice Ao25 y151.length co25) y151 0 t154 false w _ ?side1 ?side2 ?side3 ?side4 ?side5 ?side6 A15.out).mono ?_); (case side1 => repeat (first | (with_reducible first | exact HB.out | apply below_alloc | apply pw_below_drewN | apply below_drew1) | exact HB.out)); (case side2 => exact Kd.C_kept_came (Kd.heap_int .i64) HR0.out (by repeat (first | (with_reducible first | exact HB.out | apply below_alloc | apply pw_below_drewN | apply below_drew1) | exact HB.out)) (fun k_ hs_ => (fun e_ => Kd.R_base HO153.out k_ e_.symm) hs_)); (case side3 => exact HC0.out); (case side4 => exact Kd.C_kept_own (HO_9.out) (fun k_ hk_ hs_ => (hk_.2) hs_)); (case side5 => exact (Kd.R_reads' HO_9.out).2.1); (case side6 => exact Kd.R_tight rfl HO153.out); rintro e w26 ⟨v155, rfl, ho0, hb, hkp⟩; refine ⟨_, rfl, ?_⟩; have n0_ := Aside0.mk (Kd.R_mono (ok' := fun k_ => some k_ ≠ (v155 : Value).ownBlock) (Kd.R_keptB (HO_9.out) hkp (fun k_ hk_ hs_ => (hk_.2) hs_)) (fun k_ hk_ => fun e_ => Or.elim (ho0.1 k_ e_.symm) (fun hs_ => hk_.2.1 hs_) (fun hn_ => Nat.not_le.2 hk_.2.2 hn_))); have n1_ := Aside0.mk (Kd.R_mono (ok' := fun k_ => some k_ ≠ (.slice Ao24 x9_2.length co24 : Value).ownBlock) ho0 (fun k_ hk_ => Or.elim hk_ (fun hs_ => fun e_ => (((HO_9.out).1 k_ e_.symm).2) hs_) (fun hn_ => (Kd.fresh' (Kd.R_lt (by (with_reducible repeat (first | apply Kd.R_alloc | apply Kd.R_drewN | apply Kd.R_drew)); exact HO_9.out)) k_ hn_)))); have n2_ := Aside0.mk (hb); clear HO_9; clear HB; clear HO153; have HO_9 := n0_; have HO156 := n1_; have HB := n2_; clear n0_ n1_ n2_; (try clear hb); (try clear hkp); (try clear ho0)))
                    go_roundg k2
                    case measure => have := HK1.out; have := HK2.out; omega
                    case rel => exact ⟨(wrap64 (x8_1 + 1)), (by first | rfl | (simp; done) | (simp [*]; done)), H', ⟨by have := HK1.out; have := HK2.out; omega⟩, ⟨by repeat (first | (with_reducible first | exact HB.out | apply below_alloc | apply pw_below_drewN | apply below_drew1) | exact HB.out)⟩⟩
          · rw [if_neg c6] at H
            exact absurd H (by simp)
        · rw [if_neg c5] at H
          exact absurd H (by simp)
  · rw [if_neg c4] at H
    have c4b0 : (t143 == 0) = false := beq_eq_false_iff_ne.mpr c4
    have c4b1 : (t143 != 0) = true := bne_iff_ne.mpr c4
    obtain ⟨y144, hy144⟩ : ∃ y_ : List Int, y_ = (([] : List Int)) := ⟨_, rfl⟩
    replace H : (some (y144, 0, t143)) = some (r1, r2, r3) := by first | (rw [hy144]; with_reducible exact H) | (have H2_ := (Option.bind_some _ _).symm.trans H; rw [hy144]; with_reducible exact H2_) | (have H2_ := (Option.bind_some _ _).symm.trans H; with_reducible exact H2_) | with_reducible exact H | (rw [hy144]; exact H) | exact H
    have Ny144 := Aside0.mk hy144
    clear hy144
    simp only [Option.some.injEq, Prod.mk.injEq] at H
    obtain ⟨rfl, rfl, rfl⟩ := H
    go_enter Try.func11, Try.ntmps11
    go_wp2_with (first | ((with_reducible refine gate_callee (f := 13) rfl ?_); refine goesL_ (some 15) rfl rfl Try.func13 (by kernel_rfl) rfl #[.slice A0 l0.length c0, .int .i64 a1] rfl (by (try simp only [List.map_toArray, List.map_cons, List.map_nil]); first | done | rfl | (simp only [List.length_drop, List.length_take]; rfl)) ?_; (with_reducible refine (spec_l05Pieces.calls k _ _ l0 a1 t143 _ ?side1 ?side2 A3.out).mono ?_); (case side1 => repeat (first | exact HR0.out | (with_reducible refine Kd.C_alloc ?_ _) | (with_reducible refine Kd.C_drewN ?_ _) | (with_reducible refine Kd.C_drew ?_))); (case side2 => exact HC0.out); rintro e w' ⟨rfl, ⟨nd, rfl⟩⟩; refine ⟨_, rfl, ?_⟩) | ((with_reducible refine gate_dst (N := 18) rfl ?_); refine Kd.R_lit (Kd.int .i64) _ 2 ?hg (N := 18) ?hd (xs := ([] : List Int)) (inner := []) (ok := fun _ => True) (okp := fun _ => True) ?hr ?hp (fun _ hk => hk) trivial (Below.refl _ _) (Nat.le_refl _) (by simp) ?_; (case hd => rfl); (case hg => rfl); (case hr => first | (go_simp; done) | (go_simp; rfl)); (case hp => exact (Reps.none _ _)); intro v145 w27 ho28 hb hg_ hnew_; clear hg_ hnew_; (first | rw [← Ny144.out] at ho28 | (simp only [Int.reduceToNat] at ho28; rw [← Ny144.out] at ho28)); have n0_ := Aside0.mk (Kd.R_lower ho28 (below_size (by repeat (first | (with_reducible first | exact HB.out | apply below_alloc | apply pw_below_drewN | apply below_drew1) | exact HB.out)))); have n1_ := Aside0.mk (below_step (by repeat (first | (with_reducible first | exact HB.out | apply below_alloc | apply pw_below_drewN | apply below_drew1) | exact HB.out)) hb); clear HB; have HO146 := n0_; have HB := n1_; clear n0_ n1_; clear hb ho28))
    go_ret3
    exact ⟨_, by first | rfl | (simp [errW_none, errW_some] <;> rfl) | (simp [*, errW_none, errW_some] <;> rfl), by (with_reducible repeat (first | apply Kd.R_alloc | apply Kd.R_drewN | apply Kd.R_drew)); exact HO146.out, by repeat (first | (with_reducible first | exact HB.out | apply below_alloc | apply pw_below_drewN | apply below_drew1) | exact HB.out)⟩

/-! ### impl_within: function 20 -/
def impl_within.f (a0 : Int) (a1 : Int) (a2 : Int) : Option (Bool) := if a1 ≤ a0 then (some (decide (a0 ≤ a2))) else (some false)
set_option maxHeartbeats 8000000 in
set_option maxRecDepth 100000 in
theorem impl_within.calls (a0 : Int) (a1 : Int) (a2 : Int) (r : Bool) (w : World) (h : impl_within.f a0 a1 a2 = some r) :
    Calls Try.prog 20 #[.int .i64 a0, .int .i64 a1, .int .i64 a2] w fun e w' => e = .returned (.bool r) ∧ Drawn0 w w' := by
  have H : (if a1 ≤ a0 then (some (decide (a0 ≤ a2))) else (some false)) = some r := h
  clear h
  by_cases c4 : a1 ≤ a0
  · rw [if_pos c4] at H
    have c4b0 : decide (a1 ≤ a0) = true := decide_eq_true c4
    clear c4
    obtain rfl := Option.some.inj H
    go_enter Try.func20, Try.ntmps20
    go_wp2
    go_ret
    exact ⟨by first | rfl | (simp; done) | (simp [*]; done), by repeat (first | exact Drawn0.refl _ | apply Drawn0.step)⟩
  · rw [if_neg c4] at H
    have c4b0 : decide (a1 ≤ a0) = false := decide_eq_false c4
    clear c4
    obtain rfl := Option.some.inj H
    go_enter Try.func20, Try.ntmps20
    go_wp2
    go_ret
    exact ⟨by first | rfl | (simp; done) | (simp [*]; done), by repeat (first | exact Drawn0.refl _ | apply Drawn0.step)⟩

-- NOT PRINTED: function 29 (slices_IndexFunc_int64_int64)

-- NOT PRINTED: function 21 (slices_ContainsFunc_int64_int64)

/-! ### impl.stripCode, by hand: its two calls of slices.ContainsFunc, and the box that the second closure holds -/
theorem bothS_ (b : Bool) : b = false ∨ b = true := by cases b <;> simp
def fine1_ (n : Int) : Bool := decide (1 ≤ n) && decide (n ≤ 5000)
def fine2_ (a : Int) (n : Int) : Bool := !(decide (a < n))
set_option maxHeartbeats 8000000 in
set_option maxRecDepth 100000 in
theorem within_calls (x : Int) (b : Bool) (hb : fine1_ x = b) (w : World) :
    Calls Try.prog 20 #[.int .i64 x, .int .i64 1, .int .i64 5000] w fun e w' => e = .returned (.bool b) ∧ w = w' := by
  subst hb
  unfold fine1_
  rcases bothS_ (decide (1 ≤ x)) with b1 | b1
  · rw [b1]
    go_enter Try.func20, Try.ntmps20
    go_wp2
    go_ret
    exact ⟨by simp, rfl⟩
  rcases bothS_ (decide (x ≤ 5000)) with b2 | b2
  all_goals
    rw [b1, b2]
    go_enter Try.func20, Try.ntmps20
    go_wp2
    go_ret
    exact ⟨by simp, rfl⟩
set_option maxHeartbeats 8000000 in
set_option maxRecDepth 100000 in
theorem strip1_calls (x : Int) (b : Bool) (hb : fine1_ x = b) (w : World) :
    Calls Try.prog 22 #[.int .i64 x] w fun e w' => e = .returned (.bool (!b)) ∧ Below w.heap.size w w' := by
  have HW := Aside0.mk (within_calls x b hb)
  clear hb
  go_enter Try.func22, Try.ntmps22
  go_wp2_with (first | (go_at_call 20; refine (HW.out _).mono ?_; rintro e w1 ⟨rfl, rfl⟩))
  go_ret
  exact ⟨rfl, by repeat (first | exact Below.refl _ _ | apply below_alloc | apply pw_below_drewN | apply below_drew1)⟩
set_option maxHeartbeats 8000000 in
set_option maxRecDepth 100000 in
theorem strip2_calls (x a : Int) (b : Bool) (hb : fine2_ a x = b) (g : Nat) (w : World) (hg : w.cell? ⟨g, 0, none⟩ = some (.int .i64 a)) :
    Calls Try.prog 23 #[.int .i64 x, .pointer (some ⟨g, 0, none⟩)] w fun e w' => e = .returned (.bool (!b)) ∧ Below w.heap.size w w' := by
  subst hb
  go_enter Try.func23, Try.ntmps23
  go_wp2
  go_ret
  exact ⟨by simp [fine2_], by repeat (first | exact Below.refl _ _ | apply below_alloc | apply pw_below_drewN | apply below_drew1)⟩
set_option maxHeartbeats 8000000 in
set_option maxRecDepth 100000 in
theorem strip1_index (A0 : Option Addr) (c0 : Nat) (l0 : List Int) (hl : (l0.length : Int) < 9223372036854775807) (w : World) (hr0 : Kd.C (Kd.int .i64) w A0 l0.length l0) :
    Calls Try.prog 29 #[.slice A0 l0.length c0, .func (.func 22) #[] #[]] w fun e w' => (∃ r : Int, e = .returned (.int .i64 r) ∧ ((r = -1 ∧ l0.all fine1_ = true) ∨ (0 ≤ r ∧ l0.all fine1_ = false))) ∧ Below w.heap.size w w' := by
  have HR0 := Aside0.mk hr0
  have HL := Aside0.mk hl
  clear hr0 hl
  go_enter Try.func29, Try.ntmps29
  go_wp2
  go_loopw [8] (fun v wr => ∃ i : Int, v = .int .i64 i ∧ Aside0 (0 ≤ i ∧ i ≤ l0.length) ∧ Aside0 (∀ j : Nat, (j : Int) < i → fine1_ (l0.getD j 0) = true) ∧ Aside0 (Below w.heap.size w wr)) (fun v _ => (l0.length - intOf v).toNat)
  case atStart => exact ⟨0, rfl, ⟨by omega, by omega⟩, ⟨fun j h1 => by omega⟩, ⟨Below.refl _ _⟩⟩
  case round =>
    obtain ⟨i, rfl, HI, HALL, HB⟩ := hrel
    by_cases c2 : i < (l0.length : Int)
    · have p : 0 ≤ i := HI.out.1
      have c2b : decide (i < (l0.length : Int)) = true := decide_eq_true c2
      obtain ⟨ad, e, hx0⟩ := Kd.at_int HR0.out i p c2
      cases e
      replace hx0 := (HB.out.cell (World.block_lt_of_cell? w _ hx0)).trans hx0
      have x1 : IntKind.i64.wrap (i + 1) = i + 1 := IntWalk.i64_in _ (by have := HL.out; omega)
      have q := eq_true c2
      replace p := eq_true p
      clear c2
      rcases bothS_ (fine1_ (rd l0 i)) with b | b
      · have HD := Aside0.mk b
        clear b
        go_wp2_with (first | (go_at_call 22; refine (strip1_calls (rd l0 i) false HD.out _).mono ?_; rintro e w1 ⟨rfl, hb⟩))
        go_ret
        have hq := of_eq_true q
        have hp := of_eq_true p
        refine ⟨⟨i, rfl, Or.inr ⟨hp, ?_⟩⟩, below_step (by repeat (first | exact HB.out | apply below_alloc | apply pw_below_drewN | apply below_drew1)) hb⟩
        rw [List.all_eq_false]
        refine ⟨rd l0 i, ?_, by rw [HD.out]; decide⟩
        unfold rd
        rw [List.getD_eq_getElem?_getD, List.getElem?_eq_getElem (by omega)]
        exact List.getElem_mem _
      · have HD := Aside0.mk b
        clear b
        go_wp2_with (first | (go_at_call 22; refine (strip1_calls (rd l0 i) true HD.out _).mono ?_; rintro e w1 ⟨rfl, hb⟩))
        have hi := HI.out
        have hq := of_eq_true q
        exact ⟨⟨i + 1, by go_num, ⟨by omega, by omega⟩, ⟨fun j h1 => (by
          by_cases e : (j : Int) = i
          · have := HD.out; unfold rd at this; rw [← e] at this; exact this
          · exact HALL.out j (by omega))⟩, ⟨below_step (by repeat (first | exact HB.out | apply below_alloc | apply pw_below_drewN | apply below_drew1)) hb⟩⟩, by simp [intOf]; omega⟩
    · have c2b : decide (i < (l0.length : Int)) = false := decide_eq_false c2
      have hi := HI.out
      go_wp2
      go_ret
      refine ⟨⟨-1, rfl, Or.inl ⟨rfl, ?_⟩⟩, HB.out⟩
      try rw [List.all_eq_true]
      intro x hx
      obtain ⟨j, hj, rfl⟩ := List.getElem_of_mem hx
      have := HALL.out j (by omega)
      rwa [List.getD_eq_getElem?_getD, List.getElem?_eq_getElem hj] at this
set_option maxHeartbeats 8000000 in
set_option maxRecDepth 100000 in
theorem strip1_any (A0 : Option Addr) (c0 : Nat) (l0 : List Int) (hl : (l0.length : Int) < 9223372036854775807) (r : Bool) (hr : (!(l0.all fine1_)) = r) (w : World) (hr0 : Kd.C (Kd.int .i64) w A0 l0.length l0) :
    Calls Try.prog 21 #[.slice A0 l0.length c0, .func (.func 22) #[] #[]] w fun e w' => e = .returned (.bool r) ∧ Below w.heap.size w w' := by
  subst hr
  have HI := Aside0.mk (strip1_index A0 c0 l0 hl w hr0)
  clear hr0 hl
  go_enter Try.func21, Try.ntmps21
  go_wp2_with (first | (go_at_call 29; refine HI.out.mono ?_; rintro e w1 ⟨⟨r, rfl, hr⟩, hb⟩))
  go_ret
  rcases hr with ⟨rfl, h⟩ | ⟨h0, h⟩
  · exact ⟨by rw [h]; rfl, hb⟩
  · exact ⟨by rw [h]; simp [h0], hb⟩
set_option maxHeartbeats 8000000 in
set_option maxRecDepth 100000 in
theorem strip2_index (A0 : Option Addr) (c0 : Nat) (l0 : List Int) (a1 : Int) (g : Nat) (hl : (l0.length : Int) < 9223372036854775807) (w : World) (hr0 : Kd.C (Kd.int .i64) w A0 l0.length l0) (hg : w.cell? ⟨g, 0, none⟩ = some (.int .i64 a1)) :
    Calls Try.prog 29 #[.slice A0 l0.length c0, .func (.func 23) #[] #[.pointer (some ⟨g, 0, none⟩)]] w fun e w' => (∃ r : Int, e = .returned (.int .i64 r) ∧ ((r = -1 ∧ l0.all (fine2_ a1) = true) ∨ (0 ≤ r ∧ l0.all (fine2_ a1) = false))) ∧ Below w.heap.size w w' := by
  have HR0 := Aside0.mk hr0
  have HL := Aside0.mk hl
  clear hr0 hl
  go_enter Try.func29, Try.ntmps29
  go_wp2
  go_loopw [8] (fun v wr => ∃ i : Int, v = .int .i64 i ∧ Aside0 (0 ≤ i ∧ i ≤ l0.length) ∧ Aside0 (∀ j : Nat, (j : Int) < i → (fine2_ a1) (l0.getD j 0) = true) ∧ Aside0 (Below w.heap.size w wr)) (fun v _ => (l0.length - intOf v).toNat)
  case atStart => exact ⟨0, rfl, ⟨by omega, by omega⟩, ⟨fun j h1 => by omega⟩, ⟨Below.refl _ _⟩⟩
  case round =>
    obtain ⟨i, rfl, HI, HALL, HB⟩ := hrel
    by_cases c2 : i < (l0.length : Int)
    · have p : 0 ≤ i := HI.out.1
      have c2b : decide (i < (l0.length : Int)) = true := decide_eq_true c2
      obtain ⟨ad, e, hx0⟩ := Kd.at_int HR0.out i p c2
      cases e
      replace hx0 := (HB.out.cell (World.block_lt_of_cell? w _ hx0)).trans hx0
      have hg1 := (HB.out.cell (World.block_lt_of_cell? w _ hg)).trans hg
      have x1 : IntKind.i64.wrap (i + 1) = i + 1 := IntWalk.i64_in _ (by have := HL.out; omega)
      have q := eq_true c2
      replace p := eq_true p
      clear c2
      rcases bothS_ ((fine2_ a1) (rd l0 i)) with b | b
      · have HD := Aside0.mk b
        clear b
        go_wp2_with (first | (go_at_call 23; refine (strip2_calls (rd l0 i) a1 false HD.out g _ hg1).mono ?_; rintro e w1 ⟨rfl, hb⟩))
        go_ret
        have hq := of_eq_true q
        have hp := of_eq_true p
        refine ⟨⟨i, rfl, Or.inr ⟨hp, ?_⟩⟩, below_step (by repeat (first | exact HB.out | apply below_alloc | apply pw_below_drewN | apply below_drew1)) hb⟩
        rw [List.all_eq_false]
        refine ⟨rd l0 i, ?_, by rw [HD.out]; decide⟩
        unfold rd
        rw [List.getD_eq_getElem?_getD, List.getElem?_eq_getElem (by omega)]
        exact List.getElem_mem _
      · have HD := Aside0.mk b
        clear b
        go_wp2_with (first | (go_at_call 23; refine (strip2_calls (rd l0 i) a1 true HD.out g _ hg1).mono ?_; rintro e w1 ⟨rfl, hb⟩))
        have hi := HI.out
        have hq := of_eq_true q
        exact ⟨⟨i + 1, by go_num, ⟨by omega, by omega⟩, ⟨fun j h1 => (by
          by_cases e : (j : Int) = i
          · have := HD.out; unfold rd at this; rw [← e] at this; exact this
          · exact HALL.out j (by omega))⟩, ⟨below_step (by repeat (first | exact HB.out | apply below_alloc | apply pw_below_drewN | apply below_drew1)) hb⟩⟩, by simp [intOf]; omega⟩
    · have c2b : decide (i < (l0.length : Int)) = false := decide_eq_false c2
      have hi := HI.out
      go_wp2
      go_ret
      refine ⟨⟨-1, rfl, Or.inl ⟨rfl, ?_⟩⟩, HB.out⟩
      try rw [List.all_eq_true]
      intro x hx
      obtain ⟨j, hj, rfl⟩ := List.getElem_of_mem hx
      have := HALL.out j (by omega)
      rwa [List.getD_eq_getElem?_getD, List.getElem?_eq_getElem hj] at this
set_option maxHeartbeats 8000000 in
set_option maxRecDepth 100000 in
theorem strip2_any (A0 : Option Addr) (c0 : Nat) (l0 : List Int) (a1 : Int) (g : Nat) (hl : (l0.length : Int) < 9223372036854775807) (r : Bool) (hr : (!(l0.all (fine2_ a1))) = r) (w : World) (hr0 : Kd.C (Kd.int .i64) w A0 l0.length l0) (hg : w.cell? ⟨g, 0, none⟩ = some (.int .i64 a1)) :
    Calls Try.prog 21 #[.slice A0 l0.length c0, .func (.func 23) #[] #[.pointer (some ⟨g, 0, none⟩)]] w fun e w' => e = .returned (.bool r) ∧ Below w.heap.size w w' := by
  subst hr
  have HI := Aside0.mk (strip2_index A0 c0 l0 a1 g hl w hr0 hg)
  clear hr0 hl
  go_enter Try.func21, Try.ntmps21
  go_wp2_with (first | (go_at_call 29; refine HI.out.mono ?_; rintro e w1 ⟨⟨r, rfl, hr⟩, hb⟩))
  go_ret
  rcases hr with ⟨rfl, h⟩ | ⟨h0, h⟩
  · exact ⟨by rw [h]; rfl, hb⟩
  · exact ⟨by rw [h]; simp [h0], hb⟩
/-- What it answers. -/
def impl_stripCode.f (l0 : List Int) (a1 : Int) : Option (Int) := if (l0.length : Int) < 9223372036854775807 then some (if fine1_ a1 && l0.all fine1_ then (if (8 : Int) < l0.length then 3 else if l0.all (fine2_ a1) then 0 else 6) else 2) else none
set_option maxHeartbeats 8000000 in
set_option maxRecDepth 100000 in
theorem impl_stripCode.calls (A0 : Option Addr) (c0 : Nat) (l0 : List Int) (a1 : Int) (r : Int) (w : World) (hr0 : Kd.C (Kd.int .i64) w A0 l0.length l0) (hc0 : l0.length ≤ c0) (h : impl_stripCode.f l0 a1 = some r) :
    Calls Try.prog 14 #[.slice A0 l0.length c0, .int .i64 a1] w fun e w' => e = .returned (.int .i64 r) ∧ Below w.heap.size w w' := by
  unfold impl_stripCode.f at h
  by_cases hl : (l0.length : Int) < 9223372036854775807
  case neg => rw [if_neg hl] at h; cases h
  rw [if_pos hl] at h
  obtain rfl := Option.some.inj h
  clear h hc0
  have HR0 := Aside0.mk hr0
  have H1 := fun (r : Bool) hr (w : World) hr0 => strip1_any A0 c0 l0 hl r hr w hr0
  have H2 := fun (g : Nat) (r : Bool) hr (w : World) hr0 hg => strip2_any A0 c0 l0 a1 g hl r hr w hr0 hg
  have H2 := H2 w.heap.size
  clear hr0 hl
  rcases bothS_ (fine1_ a1) with b1 | b1
  · have HW := Aside0.mk (within_calls a1 false b1)
    rw [b1]
    clear b1 H1 H2
    go_enter Try.func14, Try.ntmps14
    go_wp2_with (first | (go_at_call 20; refine (HW.out _).mono ?_; rintro e w1 ⟨rfl, rfl⟩))
    go_ret
    exact ⟨rfl, below_alloc (Below.refl _ _) _⟩
  have HW := Aside0.mk (within_calls a1 true b1)
  rw [b1]
  clear b1
  rcases bothS_ (l0.all fine1_) with b2 | b2
  · have H1 := Aside0.mk (H1 true (by rw [b2]; rfl))
    rw [b2]
    clear b2 H2
    go_enter Try.func14, Try.ntmps14
    go_wp2_with (first | (go_at_call 20; refine (HW.out _).mono ?_; rintro e w1 ⟨rfl, rfl⟩) | (go_at_call 21; refine (H1.out _ (Kd.C_alloc HR0.out _)).mono ?_; rintro e w2 ⟨rfl, hb⟩))
    go_ret
    exact ⟨rfl, below_step (below_alloc (Below.refl _ _) _) hb⟩
  have H1 := Aside0.mk (H1 false (by rw [b2]; rfl))
  rw [b2]
  clear b2
  by_cases h8 : (8 : Int) < l0.length
  · have hd : decide ((8 : Int) < (l0.length : Int)) = true := decide_eq_true h8
    have hdn : decide (8 < l0.length) = true := decide_eq_true (by omega)
    rw [if_pos (show (true && true) = true from rfl), if_pos h8]
    clear h8 H2
    go_enter Try.func14, Try.ntmps14
    go_wp2_with (first | (go_at_call 20; refine (HW.out _).mono ?_; rintro e w1 ⟨rfl, rfl⟩) | (go_at_call 21; refine (H1.out _ (Kd.C_alloc HR0.out _)).mono ?_; rintro e w2 ⟨rfl, hb⟩))
    go_ret
    exact ⟨rfl, below_step (below_alloc (Below.refl _ _) _) hb⟩
  have hd : decide ((8 : Int) < (l0.length : Int)) = false := decide_eq_false h8
  have hdn : decide (8 < l0.length) = false := decide_eq_false (by omega)
  rw [if_pos (show (true && true) = true from rfl), if_neg h8]
  clear h8
  rcases bothS_ (l0.all (fine2_ a1)) with b3 | b3
  · have H2 := Aside0.mk (H2 true (by rw [b3]; rfl))
    rw [b3]
    clear b3
    go_enter Try.func14, Try.ntmps14
    go_wp2_with (first | (go_at_call 20; refine (HW.out _).mono ?_; rintro e w1 ⟨rfl, rfl⟩) | (go_at_call 21; refine (H1.out _ (Kd.C_alloc HR0.out _)).mono ?_; clear H1; rintro e w2 ⟨rfl, hb⟩; have bx_ : w2.cell? ⟨w.heap.size, 0, none⟩ = some (.int .i64 a1) := (hb.cell (World.block_lt_of_cell? _ _ ((cell_of_row _ _ 0 _ _ (0, 0) (heap_alloc_new w (.cells #[.int .i64 a1] 2))).trans rfl))).trans ((cell_of_row _ _ 0 _ _ (0, 0) (heap_alloc_new w (.cells #[.int .i64 a1] 2))).trans rfl); have hr2_ := Kd.C_below (Kd.C_alloc HR0.out _) hb) | (go_at_call 21; refine (H2.out _ hr2_ bx_).mono ?_; rintro e w3 ⟨rfl, hb2⟩))
    go_ret
    exact ⟨rfl, below_step (below_step (below_alloc (Below.refl _ _) _) hb) hb2⟩
  · have H2 := Aside0.mk (H2 false (by rw [b3]; rfl))
    rw [b3]
    clear b3
    go_enter Try.func14, Try.ntmps14
    go_wp2_with (first | (go_at_call 20; refine (HW.out _).mono ?_; rintro e w1 ⟨rfl, rfl⟩) | (go_at_call 21; refine (H1.out _ (Kd.C_alloc HR0.out _)).mono ?_; clear H1; rintro e w2 ⟨rfl, hb⟩; have bx_ : w2.cell? ⟨w.heap.size, 0, none⟩ = some (.int .i64 a1) := (hb.cell (World.block_lt_of_cell? _ _ ((cell_of_row _ _ 0 _ _ (0, 0) (heap_alloc_new w (.cells #[.int .i64 a1] 2))).trans rfl))).trans ((cell_of_row _ _ 0 _ _ (0, 0) (heap_alloc_new w (.cells #[.int .i64 a1] 2))).trans rfl); have hr2_ := Kd.C_below (Kd.C_alloc HR0.out _) hb) | (go_at_call 21; refine (H2.out _ hr2_ bx_).mono ?_; rintro e w3 ⟨rfl, hb2⟩))
    go_ret
    exact ⟨rfl, below_step (below_step (below_alloc (Below.refl _ _) _) hb) hb2⟩

-- NOT PRINTED: function 16 (impl_shared)

end Go.Proofs.Ytohooogfaeogeaa.QC
