/- Walks: printed by a program of this session; nothing here is trusted. -/
import Derived.Test.YtkebohpfneiimaaQFx0
import Derived.Test.YtkebohpfneiimaaQFx2
namespace Go.Proofs.Ytkebohpfneiimaa.QF
open Go.RowKit Go.Proofs.YtkebohpfneiimaaW.PrintWords Go.Proofs.YtkebohpfneiimaaW.PrintLast Go.Proofs.YtkebohpfneiimaaW.PrintMore
attribute [local go_sem] max2_int min2_int max_two min_two max_three min_three max_four min_four   -- for this text's walks alone
set_option linter.unusedVariables false
set_option linter.unusedSimpArgs false

/-! ### a call of slices.ContainsFunc with the closure of lengthsCode, by hand -/
def clip_ (n : Int) : Bool := decide (0 ≤ n) && decide (n ≤ 200)
theorem both2_ (b : Bool) : b = false ∨ b = true := by cases b <;> simp
set_option maxHeartbeats 8000000 in
set_option maxRecDepth 100000 in
theorem clip_calls (x : Int) (b : Bool) (hb : clip_ x = b) (w : World) :
    Calls Try.prog 34 #[.int .i64 x] w fun e w' => e = .returned (.bool (!b)) ∧ Below w.heap.size w w' := by
  subst hb
  unfold clip_
  rcases both2_ (decide (0 ≤ x)) with b1 | b1
  · rw [b1]
    go_enter Try.func34, Try.ntmps34
    go_wp2
    go_ret
    exact ⟨by simp, by repeat (first | exact Below.refl _ _ | apply below_alloc | apply pw_below_drewN | apply below_drew1)⟩
  rcases both2_ (decide (x ≤ 200)) with b2 | b2
  · rw [b1, b2]
    go_enter Try.func34, Try.ntmps34
    go_wp2
    go_ret
    exact ⟨by simp, by repeat (first | exact Below.refl _ _ | apply below_alloc | apply pw_below_drewN | apply below_drew1)⟩
  · rw [b1, b2]
    go_enter Try.func34, Try.ntmps34
    go_wp2
    go_ret
    exact ⟨by simp, by repeat (first | exact Below.refl _ _ | apply below_alloc | apply pw_below_drewN | apply below_drew1)⟩
/-- Is any of them out of range? No answer where there are more than can be. -/
def lengths_any.f (l0 : List Int) : Option (Bool) := if (l0.length : Int) < 9223372036854775807 then some (!(l0.all clip_)) else none
set_option maxHeartbeats 8000000 in
set_option maxRecDepth 100000 in
theorem clip_index (A0 : Option Addr) (c0 : Nat) (l0 : List Int) (hl : (l0.length : Int) < 9223372036854775807) (w : World) (hr0 : Kd.C (Kd.int .i64) w A0 l0.length l0) :
    Calls Try.prog 39 #[.slice A0 l0.length c0, .func (.func 34) #[] #[]] w fun e w' => (∃ r : Int, e = .returned (.int .i64 r) ∧ ((r = -1 ∧ l0.all clip_ = true) ∨ (0 ≤ r ∧ l0.all clip_ = false))) ∧ Below w.heap.size w w' := by
  have HR0 := Aside0.mk hr0
  have HL := Aside0.mk hl
  clear hr0 hl
  go_enter Try.func39, Try.ntmps39
  go_wp2
  go_loopw [8] (fun v wr => ∃ i : Int, v = .int .i64 i ∧ Aside0 (0 ≤ i ∧ i ≤ l0.length) ∧ Aside0 (∀ j : Nat, (j : Int) < i → clip_ (l0.getD j 0) = true) ∧ Aside0 (Below w.heap.size w wr)) (fun v _ => (l0.length - intOf v).toNat)
  case atStart => exact ⟨0, rfl, ⟨by omega, by omega⟩, ⟨fun j h1 => by omega⟩, ⟨Below.refl _ _⟩⟩
  case round =>
    obtain ⟨i, rfl, HI, HALL, HB⟩ := hrel
    by_cases c2 : i < (l0.length : Int)
    · have p : 0 ≤ i := HI.out.1
      have c2b : decide (i < (l0.length : Int)) = true := decide_eq_true c2
      obtain ⟨ad, e, hx0⟩ := Kd.at_int HR0.out i p c2
      cases e
      replace hx0 := (HB.out.cell (World.block_lt_of_cell? w _ hx0)).trans hx0
      have x1 : IntKind.i64.wrap (i + 1) = i + 1 := IntWalk.i64_in _ (by have := HL.out; omega)
      have q := eq_true c2
      replace p := eq_true p
      clear c2
      rcases both2_ (clip_ (rd l0 i)) with b | b
      · have HD := Aside0.mk b
        clear b
        go_wp2_with (first | (go_at_call 34; refine (clip_calls (rd l0 i) false HD.out _).mono ?_; rintro e w1 ⟨rfl, hb⟩))
        go_ret
        have hq := of_eq_true q
        have hp := of_eq_true p
        refine ⟨⟨i, rfl, Or.inr ⟨hp, ?_⟩⟩, below_step (by repeat (first | exact HB.out | apply below_alloc | apply pw_below_drewN | apply below_drew1)) hb⟩
        rw [List.all_eq_false]
        refine ⟨rd l0 i, ?_, by rw [HD.out]; decide⟩
        unfold rd
        rw [List.getD_eq_getElem?_getD, List.getElem?_eq_getElem (by omega)]
        exact List.getElem_mem _
      · have HD := Aside0.mk b
        clear b
        go_wp2_with (first | (go_at_call 34; refine (clip_calls (rd l0 i) true HD.out _).mono ?_; rintro e w1 ⟨rfl, hb⟩))
        have hi := HI.out
        have hq := of_eq_true q
        exact ⟨⟨i + 1, by go_num, ⟨by omega, by omega⟩, ⟨fun j h1 => (by
          by_cases e : (j : Int) = i
          · have := HD.out; unfold rd at this; rw [← e] at this; exact this
          · exact HALL.out j (by omega))⟩, ⟨below_step (by repeat (first | exact HB.out | apply below_alloc | apply pw_below_drewN | apply below_drew1)) hb⟩⟩, by simp [intOf]; omega⟩
    · have c2b : decide (i < (l0.length : Int)) = false := decide_eq_false c2
      have hi := HI.out
      go_wp2
      go_ret
      refine ⟨⟨-1, rfl, Or.inl ⟨rfl, ?_⟩⟩, HB.out⟩
      try rw [List.all_eq_true]
      intro x hx
      obtain ⟨j, hj, rfl⟩ := List.getElem_of_mem hx
      have := HALL.out j (by omega)
      rwa [List.getD_eq_getElem?_getD, List.getElem?_eq_getElem hj] at this
set_option maxHeartbeats 8000000 in
set_option maxRecDepth 100000 in
theorem lengths_any.calls (A0 : Option Addr) (c0 : Nat) (l0 : List Int) (r : Bool) (w : World) (hr0 : Kd.C (Kd.int .i64) w A0 l0.length l0) (hc0 : l0.length ≤ c0) (h : lengths_any.f l0 = some r) :
    Calls Try.prog 33 #[.slice A0 l0.length c0, .func (.func 34) #[] #[]] w fun e w' => e = .returned (.bool r) ∧ Below w.heap.size w w' := by
  unfold lengths_any.f at h
  by_cases hl : (l0.length : Int) < 9223372036854775807
  · rw [if_pos hl] at h
    obtain rfl := Option.some.inj h
    clear h
    have HI := Aside0.mk (clip_index A0 c0 l0 hl w hr0)
    clear hr0 hl
    go_enter Try.func33, Try.ntmps33
    go_wp2_with (first | (go_at_call 39; refine HI.out.mono ?_; rintro e w1 ⟨⟨r, rfl, hr⟩, hb⟩))
    go_ret
    rcases hr with ⟨rfl, h⟩ | ⟨h0, h⟩
    · exact ⟨by rw [h]; rfl, hb⟩
    · exact ⟨by rw [h]; simp [h0], hb⟩
  · rw [if_neg hl] at h
    cases h

-- NOT PRINTED: function 33 (slices_ContainsFunc_int64_int64)

/-! ### impl_lengthsCode: function 21 -/
def impl_lengthsCode.f (k : Nat) (l0 : List (S43)) (l1 : List Int) : Option (Int) := (impl_ValidWeather.f k l0).bind fun t176 => (if t176 = true then ((lengths_any.f l1).bind fun t177 => (if t177 = true then (some 2) else (some 0))) else (some 1))
theorem impl_lengthsCode.mono : ∀ a0 a1 k, LeO (impl_lengthsCode.f k a0 a1) (impl_lengthsCode.f (k + 1) a0 a1) := by
  intro a0 a1 k
  unfold impl_lengthsCode.f
  repeat' first
      | (with_reducible exact impl_ValidWeather.mono _ _)
      | (with_reducible exact LeO.refl _)
      | (with_reducible exact LeO.none _)
      | (with_reducible refine LeO.ite ?_ ?_)
      | (with_reducible refine LeO.bind ?_ (fun _ => ?_))
      | exact impl_ValidWeather.mono _ _
      | exact LeO.none _
      | refine LeO.ite ?_ ?_
      | refine LeO.bind ?_ (fun _ => ?_)
set_option maxHeartbeats 8000000 in
set_option maxRecDepth 100000 in
theorem impl_lengthsCode.calls (k : Nat) (A0 : Option Addr) (c0 : Nat) (l0 : List (S43)) (A1 : Option Addr) (c1 : Nat) (l1 : List Int) (r : Int) (w : World) (hr0 : Kd.C k43 w A0 l0.length l0) (hc0 : l0.length ≤ c0) (hr1 : Kd.C (Kd.int .i64) w A1 l1.length l1) (hc1 : l1.length ≤ c1) (h : impl_lengthsCode.f k l0 l1 = some r) :
    Calls Try.prog 21 #[.slice A0 l0.length c0, .slice A1 l1.length c1] w fun e w' => e = .returned (.int .i64 r) ∧ Below w.heap.size w w' := by
  have HR0 := Aside0.mk hr0
  have HC0 := Aside0.mk hc0
  clear hr0 hc0
  have HR1 := Aside0.mk hr1
  have HC1 := Aside0.mk hc1
  clear hr1 hc1
  have HB := Aside0.mk (Below.refl w.heap.size w)
  have H : ((impl_ValidWeather.f k l0).bind fun t176 => (if t176 = true then ((lengths_any.f l1).bind fun t177 => (if t177 = true then (some 2) else (some 0))) else (some 1))) = some r := h
  clear h
  replace H := Option.bind_eq_some_iff.mp H
  obtain ⟨t176, A30, H⟩ := H
  replace H : (if t176 = true then ((lengths_any.f l1).bind fun t177 => (if t177 = true then (some 2) else (some 0))) else (some 1)) = some r := H
  have A3 := Aside0.mk A30
  clear A30
  by_cases c4 : t176 = true
  · subst c4
    have H1 : ((lengths_any.f l1).bind fun t177 => (if t177 = true then (some 2) else (some 0))) = some r := by rw [if_pos rfl] at H; exact H
    clear H
    have H := H1
    clear H1
    replace H := Option.bind_eq_some_iff.mp H
    obtain ⟨t177, A50, H⟩ := H
    replace H : (if t177 = true then (some 2) else (some 0)) = some r := H
    have A5 := Aside0.mk A50
    clear A50
    by_cases c6 : t177 = true
    · subst c6
      have H1 : (some 2) = some r := by rw [if_pos rfl] at H; exact H
      clear H
      have H := H1
      clear H1
      obtain rfl := Option.some.inj H
      go_enter Try.func21, Try.ntmps21
      go_wp2_with (first | ((with_reducible refine gate_callee (f := 32) rfl ?_); refine goesL_ (some 7) rfl rfl Try.func32 (by kernel_rfl) rfl #[.slice A0 l0.length c0] rfl (by (try simp only [List.map_toArray, List.map_cons, List.map_nil]); first | done | rfl | (simp only [List.length_drop, List.length_take]; rfl)) ?_; (with_reducible refine (impl_ValidWeather.calls k _ _ l0 true _ ?side1 ?side2 A3.out).mono ?_); (case side1 => repeat (first | exact HR0.out | (with_reducible refine Kd.C_alloc ?_ _) | (with_reducible refine Kd.C_drewN ?_ _) | (with_reducible refine Kd.C_drew ?_))); (case side2 => exact HC0.out); rintro e w7 ⟨rfl, hb⟩; refine ⟨_, rfl, ?_⟩; have n0_ := Aside0.mk (below_step (by repeat (first | (with_reducible first | exact HB.out | apply below_alloc | apply pw_below_drewN | apply below_drew1) | exact HB.out)) hb); clear HB; have HB := n0_; clear n0_; (try clear hb); (try clear hb2); (try clear hk); (try clear hi)) | ((with_reducible refine gate_callee (f := 33) rfl ?_); refine goesL_ (some 11) rfl rfl Try.func33 (by kernel_rfl) rfl #[.slice A1 l1.length c1, .func (.func 34) #[] #[]] rfl (by (try simp only [List.map_toArray, List.map_cons, List.map_nil]); first | done | rfl | (simp only [List.length_drop, List.length_take]; rfl)) ?_; (with_reducible refine (lengths_any.calls _ _ l1 true _ ?side1 ?side2 A5.out).mono ?_); (case side1 => repeat (first | exact (Kd.C_below HR1.out HB.out) | (with_reducible refine Kd.C_alloc ?_ _) | (with_reducible refine Kd.C_drewN ?_ _) | (with_reducible refine Kd.C_drew ?_))); (case side2 => exact HC1.out); rintro e w8 ⟨rfl, hb⟩; refine ⟨_, rfl, ?_⟩; have n0_ := Aside0.mk (below_step (by repeat (first | (with_reducible first | exact HB.out | apply below_alloc | apply pw_below_drewN | apply below_drew1) | exact HB.out)) hb); clear HB; have HB := n0_; clear n0_; (try clear hb); (try clear hb2); (try clear hk); (try clear hi)))
      go_ret
      exact ⟨by first | rfl | (simp [errW_none, errW_some] <;> rfl) | (simp [*, errW_none, errW_some] <;> rfl), by repeat (first | (with_reducible first | exact HB.out | apply below_alloc | apply pw_below_drewN | apply below_drew1) | exact HB.out)⟩
    · replace c6 := Bool.eq_false_iff.mpr c6
      subst c6
      have H1 : (some 0) = some r := by rw [if_neg (show ¬ (false = true) by decide)] at H; exact H
      clear H
      have H := H1
      clear H1
      obtain rfl := Option.some.inj H
      go_enter Try.func21, Try.ntmps21
      go_wp2_with (first | ((with_reducible refine gate_callee (f := 32) rfl ?_); refine goesL_ (some 7) rfl rfl Try.func32 (by kernel_rfl) rfl #[.slice A0 l0.length c0] rfl (by (try simp only [List.map_toArray, List.map_cons, List.map_nil]); first | done | rfl | (simp only [List.length_drop, List.length_take]; rfl)) ?_; (with_reducible refine (impl_ValidWeather.calls k _ _ l0 true _ ?side1 ?side2 A3.out).mono ?_); (case side1 => repeat (first | exact HR0.out | (with_reducible refine Kd.C_alloc ?_ _) | (with_reducible refine Kd.C_drewN ?_ _) | (with_reducible refine Kd.C_drew ?_))); (case side2 => exact HC0.out); rintro e w9 ⟨rfl, hb⟩; refine ⟨_, rfl, ?_⟩; have n0_ := Aside0.mk (below_step (by repeat (first | (with_reducible first | exact HB.out | apply below_alloc | apply pw_below_drewN | apply below_drew1) | exact HB.out)) hb); clear HB; have HB := n0_; clear n0_; (try clear hb); (try clear hb2); (try clear hk); (try clear hi)) | ((with_reducible refine gate_callee (f := 33) rfl ?_); refine goesL_ (some 11) rfl rfl Try.func33 (by kernel_rfl) rfl #[.slice A1 l1.length c1, .func (.func 34) #[] #[]] rfl (by (try simp only [List.map_toArray, List.map_cons, List.map_nil]); first | done | rfl | (simp only [List.length_drop, List.length_take]; rfl)) ?_; (with_reducible refine (lengths_any.calls _ _ l1 false _ ?side1 ?side2 A5.out).mono ?_); (case side1 => repeat (first | exact (Kd.C_below HR1.out HB.out) | (with_reducible refine Kd.C_alloc ?_ _) | (with_reducible refine Kd.C_drewN ?_ _) | (with_reducible refine Kd.C_drew ?_))); (case side2 => exact HC1.out); rintro e w10 ⟨rfl, hb⟩; refine ⟨_, rfl, ?_⟩; have n0_ := Aside0.mk (below_step (by repeat (first | (with_reducible first | exact HB.out | apply below_alloc | apply pw_below_drewN | apply below_drew1) | exact HB.out)) hb); clear HB; have HB := n0_; clear n0_; (try clear hb); (try clear hb2); (try clear hk); (try clear hi)))
      go_ret
      exact ⟨by first | rfl | (simp [errW_none, errW_some] <;> rfl) | (simp [*, errW_none, errW_some] <;> rfl), by repeat (first | (with_reducible first | exact HB.out | apply below_alloc | apply pw_below_drewN | apply below_drew1) | exact HB.out)⟩
  · replace c4 := Bool.eq_false_iff.mpr c4
    subst c4
    have H1 : (some 1) = some r := by rw [if_neg (show ¬ (false = true) by decide)] at H; exact H
    clear H
    have H := H1
    clear H1
    obtain rfl := Option.some.inj H
    go_enter Try.func21, Try.ntmps21
    go_wp2_with (first | ((with_reducible refine gate_callee (f := 32) rfl ?_); refine goesL_ (some 7) rfl rfl Try.func32 (by kernel_rfl) rfl #[.slice A0 l0.length c0] rfl (by (try simp only [List.map_toArray, List.map_cons, List.map_nil]); first | done | rfl | (simp only [List.length_drop, List.length_take]; rfl)) ?_; (with_reducible refine (impl_ValidWeather.calls k _ _ l0 false _ ?side1 ?side2 A3.out).mono ?_); (case side1 => repeat (first | exact HR0.out | (with_reducible refine Kd.C_alloc ?_ _) | (with_reducible refine Kd.C_drewN ?_ _) | (with_reducible refine Kd.C_drew ?_))); (case side2 => exact HC0.out); rintro e w11 ⟨rfl, hb⟩; refine ⟨_, rfl, ?_⟩; have n0_ := Aside0.mk (below_step (by repeat (first | (with_reducible first | exact HB.out | apply below_alloc | apply pw_below_drewN | apply below_drew1) | exact HB.out)) hb); clear HB; have HB := n0_; clear n0_; (try clear hb); (try clear hb2); (try clear hk); (try clear hi)))
    go_ret
    exact ⟨by first | rfl | (simp [errW_none, errW_some] <;> rfl) | (simp [*, errW_none, errW_some] <;> rfl), by repeat (first | (with_reducible first | exact HB.out | apply below_alloc | apply pw_below_drewN | apply below_drew1) | exact HB.out)⟩

-- NOT PRINTED: function 23 (impl_plannerOf)

/-! ### impl_Weather_grows: function 27 -/
def impl_Weather_grows.f (a0_0 : Int) (a0_1 : Int) : Option (Int) := some (wrap64 ((wrap64 ((wrap64 (Int.tdiv (wrap64 (a0_0)) 10)) + 1)) * (wrap64 (Int.tdiv (wrap64 (a0_1)) 10))))
set_option maxHeartbeats 8000000 in
set_option maxRecDepth 100000 in
theorem impl_Weather_grows.calls (a0_0 : Int) (a0_1 : Int) (r : Int) (w : World) (h : impl_Weather_grows.f a0_0 a0_1 = some r) :
    Calls Try.prog 27 #[.agg #[.int .i8 a0_0, .int .i8 a0_1]] w fun e w' => e = .returned (.int .i64 r) ∧ Below w.heap.size w w' := by
  have hu43 := Try.underlying43
  have HB := Aside0.mk (Below.refl w.heap.size w)
  have H : (some (wrap64 ((wrap64 ((wrap64 (Int.tdiv (wrap64 (a0_0)) 10)) + 1)) * (wrap64 (Int.tdiv (wrap64 (a0_1)) 10))))) = some r := h
  clear h
  obtain rfl := Option.some.inj H
  go_enter Try.func27, Try.ntmps27
  go_wp2_with (first | ((with_reducible refine gate_dst (N := 1) rfl ?_); refine box_event ?hg (N := 1) ?hd (cs := #[.int .i8 a0_0, .int .i8 a0_1]) (t := 43) ?hr ?_; (case hd => rfl); (case hg => rfl); (case hr => first | (go_simp; done) | (go_simp; rfl)); intro gb178 hg w2 hbox hb; have n0_ := Aside0.mk (below_step (by repeat (first | (with_reducible first | exact HB.out | apply below_alloc | apply pw_below_drewN | apply below_drew1) | exact HB.out)) hb); have n1_ := Aside0.mk (hbox); have n2_ := Aside0.mk ((by rw [hg]; exact (below_size (by repeat (first | (with_reducible first | exact HB.out | apply below_alloc | apply pw_below_drewN | apply below_drew1) | exact HB.out))) : w.heap.size ≤ gb178)); have n3_ := Aside0.mk ((by rw [hg]; exact (below_size (by repeat (first | (with_reducible first | exact HB.out | apply below_alloc | apply pw_below_drewN | apply below_drew1) | exact HB.out))) : w.heap.size ≤ gb178)); clear HB; have HB := n0_; have BK178 := n1_; have GW178 := n2_; have GE178 := n3_; clear n0_ n1_ n2_ n3_; clear hb hbox hg; have hcz3_0 : w2.cell? ⟨gb178, 0, none⟩ = some (.int .i8 a0_0) := (blk_cell BK178.out 0).trans rfl; have hcz3_1 : w2.cell? ⟨gb178, 1, none⟩ = some (.int .i8 a0_1) := (blk_cell BK178.out 1).trans rfl; have hfz3_0 := blk_frozen BK178.out 0; have hfz3_1 := blk_frozen BK178.out 1))
  go_ret
  exact ⟨by first | rfl | (simp [errW_none, errW_some] <;> rfl) | (simp [*, errW_none, errW_some] <;> rfl), by repeat (first | (with_reducible first | exact HB.out | apply below_alloc | apply pw_below_drewN | apply below_drew1 | refine below_set ?_ GE178.out) | exact HB.out)⟩

-- NOT PRINTED: function 24 (impl_planner_least)

/-! ### impl.FewestMows, by hand: the planner's least over its memory -/
section
open Go Go.RowKit Go.Proofs.Ytkebohpfneiimaa.B Go.Proofs.Ytkebohpfneiimaa.QM

def grOf (x : S43) : Int := (impl_Weather_grows.f x.f0 x.f1).getD 0
theorem grOf_is (x : S43) : impl_Weather_grows.f x.f0 x.f1 = some (grOf x) := rfl
theorem drop_gr (xs : List (S43)) (d : Nat) (h : d < xs.length) : (xs.map grOf).drop d = grOf (rd_T43 xs d) :: (xs.map grOf).drop (d + 1) := by
  rw [List.drop_eq_getElem_cons (by simpa using h)]
  unfold rd_T43
  simp [List.getElem?_eq_getElem h]
theorem rd_mem (xs : List (S43)) (d : Nat) (h : d < xs.length) : rd_T43 xs d ∈ xs := by
  unfold rd_T43
  simp [List.getElem?_eq_getElem h]
/-- How many stores at most. -/
def cntL : Nat → Nat
  | 0 => 0
  | n + 1 => 2 * cntL n + 1
/-- The planner as it stands. -/
structure PS (cut most : Int) (gs : List Int) (A : Option Addr) (ln cp p bm bc N : Nat) (w : World) : Prop where
  cells : w.heap[p]? = some (.cells #[.int .i64 cut, .int .i64 most, .slice A ln cp, .map (some bm), .map (some bc)] 60 (0, 0))
  memo : ∃ D, w.ownsMap Try.prog 61 (plainElem (H := Unit) Try.prog 2) bm N D ∧ Memo cut most gs D
section
variable {cut most : Int} {gs : List Int} {A : Option Addr} {ln cp p bm bc N : Nat} {w w1 : World}
theorem PS.lt (S : PS cut most gs A ln cp p bm bc N w) : bm < w.heap.size := by
  obtain ⟨D, ho, _⟩ := S.memo
  exact ho.lt
theorem PS.ne (S : PS cut most gs A ln cp p bm bc N w) : bm ≠ p := by
  obtain ⟨D, ⟨es, clock, hb, _⟩, _⟩ := S.memo
  intro e
  subst e
  rw [S.cells] at hb
  cases hb
theorem own_below {P : Program} {k : TypeId} {R : Value → Option (DataW Unit × List MemPlace)} {b n : Nat} {D : DataW Unit} (h : w.ownsMap P k R b n D) (hb : Below w.heap.size w w1) : w1.ownsMap P k R b n D := by
  have hlt := h.lt
  obtain ⟨es, clock, h1, F, hs, hD⟩ := h
  exact ⟨es, clock, (hb.block b hlt).trans h1, F, hs, hD⟩
theorem PS.below (S : PS cut most gs A ln cp p bm bc N w) (hb : Below w.heap.size w w1) : PS cut most gs A ln cp p bm bc N w1 := by
  obtain ⟨D, ho, hm⟩ := S.memo
  exact ⟨blkB hb S.cells (blkLt S.cells), D, own_below ho hb, hm⟩
theorem PS.mono (S : PS cut most gs A ln cp p bm bc N w) {M : Nat} (h : N ≤ M) : PS cut most gs A ln cp p bm bc M w := by
  obtain ⟨D, ho, hm⟩ := S.memo
  exact ⟨S.cells, D, ho.mono h, hm⟩
theorem below_grown (hb : Below w.heap.size w w1) (b : Option Nat) : w.grownBy w1 b := ⟨hb.os, hb.tape, hb.output, hb.size, fun k hk _ => hb.block k hk⟩
theorem grown_trans {a b c : World} {r : Option Nat} (h : a.grownBy b r) (k : b.grownBy c r) : a.grownBy c r := h.trans k
theorem grown_blk {r : Nat} {o : Obj} {g : Nat} (hg : w.grownBy w1 (some r)) (h : w.heap[g]? = some o) (hne : g ≠ r) : w1.heap[g]? = some o := (hg.block g (blkLt h) (by simpa using hne)).trans h
end
theorem mapStep {P : Program} {ops : Array Oper} {o : Oper} {a : Act} {W : World} {Q : Exit → Act → World → Prop} {H : Type} {K : Act → World → Prop} {t k e : TypeId} {m x v : Operand} (hw : Region.wanted o (yielded ops a.tmps) = true) (hN : o.dst = none) (hop : o.op = .mapUpdate t m x v)
    (K0 : Maps.Keyed P k) (ht : P.underlying t = some (.map k e)) {R : Value → Option (DataW H × List MemPlace)} {b n : Nat} {D : DataW H} (hm : a.eval m = .map (some b)) (hown : W.ownsMap P k R b n D) (hn : n < maxLen) {key val : Value} {kl : Lit} (hx : a.eval x = key) (hv : a.eval v = val)
    (hkey : keyOf P k key = some kl) {d : DataW H} {ps : List MemPlace} (hval : R val = some (d, ps)) (hK : ∀ w', w'.ownsMap P k R b (n + 1) (D.put kl d) → W.grownBy w' (some b) → K a w') :
    if Region.wanted o (yielded ops a.tmps) = true then Oper.wp P o a W K Q else K (a.put o.dst undef) W := by
  rw [if_pos hw]
  obtain ⟨w', hrun, r1, r2⟩ := hown.update K0 ht hn hkey hval
  unfold Oper.wp
  simp [execOp, hop, hm, hx, hv, hrun, Result.andThen]
  show K (a.put o.dst undef) _
  rw [hN]
  exact hK _ r1 r2
theorem wfi {n : Int} (h0 : -1000000 ≤ n) (h1 : n ≤ 1000000) : wfI n := by
  have e1 : IntKind.i64.min = -9223372036854775808 := rfl
  have e2 : IntKind.i64.max = 9223372036854775807 := rfl
  simp only [wfI, Lit.wf, Bool.and_eq_true, decide_eq_true_eq, e1, e2]
  omega
theorem sizeK : (Try.prog.info? 61).map (·.size) = some 2 := by kernel_rfl
theorem zeroI (w : World) : (zeroValue 2).run Try.prog w = .ok (.int .i64 0) w := by kernel_rfl
set_option maxRecDepth 100000 in
set_option maxHeartbeats 4000000 in
theorem leastW (cut most : Int) (hc0 : 0 ≤ cut) (hc1 : cut ≤ 200) (hm0 : 0 ≤ most) (hm1 : most ≤ 200) (xs : List (S43)) (hx : xs.length ≤ 30) (hg : ∀ x ∈ xs, 0 ≤ grOf x ∧ grOf x ≤ 24) (A : Option Addr) (cp p bm bc : Nat) (wB : World) (hr0 : Kd.C k43 wB A xs.length xs) (hpB : wB.heap.size ≤ p) (hbB : wB.heap.size ≤ bm) :
    ∀ (n d : Nat), d + n = xs.length → ∀ (h : Int), 0 ≤ h → h ≤ 200 → ∀ (N : Nat), N + cntL n ≤ 1000000000000 → ∀ w : World, Below wB.heap.size wB w → PS cut most (xs.map grOf) A xs.length cp p bm bc N w →
    Calls Try.prog 24 #[.pointer (some ⟨p, 0, none⟩), .int .i64 d, .int .i64 h] w fun e w' => e = .returned (.int .i64 (leastP cut most ((xs.map grOf).drop d) h)) ∧ PS cut most (xs.map grOf) A xs.length cp p bm bc (N + cntL n) w' ∧ w.grownBy w' (some bm) := by
  intro n
  induction n with
  | zero =>
    intro d hd h h0 h1 N hN w hB S
    obtain rfl : d = xs.length := by omega
    have c2 := (blkC S.cells 2).trans rfl
    have e : leastP cut most ((xs.map grOf).drop xs.length) h = 0 := by rw [List.drop_eq_nil_of_le (by simp)]; rfl
    rw [e]
    have HS := Aside0.mk S
    clear S hg
    go_enter Try.func24, Try.ntmps24
    go_wp2
    go_ret
    exact ⟨rfl, HS.out.mono (by omega), World.grownBy.refl _ _⟩
  | succ n ih =>
    intro d hd h h0 h1 N hN w hB S
    have IH := Aside0.mk ih
    have HG := Aside0.mk hg
    have HR0 := Aside0.mk hr0
    have HB := Aside0.mk hB
    have HS := Aside0.mk S
    have dlt : d < xs.length := by omega
    have he : ((d : Int) == (xs.length : Int)) = false := by simp; omega
    have hen : (d == xs.length) = false := by simp; omega
    have hed : decide (d = xs.length) = false := by simp; omega
    have c2 := (blkC S.cells 2).trans rfl
    have DR := Aside0.mk (drop_gr xs d dlt)
    clear ih hg hr0 hB S
    go_enter Try.func24, Try.ntmps24
    go_wp2
    have hb1 : Below w.heap.size w (w.alloc (.cells #[.int .i64 d, .int .i64 h] 61)).drew := belD (belA (Below.refl _ _))
    have S1 := HS.out.below hb1
    have k1 : (w.alloc (.cells #[.int .i64 d, .int .i64 h] 61)).drew.heap[w.heap.size]? = some (.cells #[.int .i64 d, .int .i64 h] 61 (0, 0)) := blkD (blkN rfl)
    have c3 : (w.alloc (.cells #[.int .i64 d, .int .i64 h] 61)).drew.cell? ⟨p, 3, none⟩ = some (.map (some bm)) := (blkC S1.cells 3).trans rfl
    obtain ⟨D, ho, hM⟩ := S1.memo
    have wd : wfI (d : Int) := wfi (by omega) (by omega)
    have wh : wfI h := wfi (by omega) (by omega)
    obtain ⟨v, ps, LK, hv⟩ := ho.look_ok arrK Try.underlying57 (zeroI _) (plainElem_int Try.underlying2 (by decide)) (keyL_is wd wh)
    obtain ⟨c, rfl, hc, _⟩ := plainElem_int_inv Try.underlying2 hv
    have hc' : D.atKey (keyL d h) (.lit (.int .i64 0)) = .lit (.int .i64 c) := congrArg Prod.fst hc
    rcases twoways (Maps.has D (keyL d h)) with b | b
    case inr =>
      rw [b] at LK
      have E := Aside0.mk (hM.read wd wh b hc')
      have HS1 := Aside0.mk S1
      have HB1 := Aside0.mk hb1
      clear hb1 S1 hM ho hv hc hc' b wd wh
      refine wp_region_held_drew (S := fun w' => w'.cell? ⟨p, 3, none⟩ = some (.map (some bm)) ∧ w'.heap[w.heap.size]? = some (.cells #[.int .i64 d, .int .i64 h] 61 (0, 0)) ∧ (Instr.lookup 57 (.map (some bm)) (.agg #[.int .i64 d, .int .i64 h]) true).run Try.prog w' = .ok (.tuple #[.int .i64 c, .bool true]) w') (by kernel_rfl) ⟨c3, k1, LK⟩ (fun hS => ?_)
      refine takeAny 0 (dN := some 24) (v := ?v1_0_1) rfl rfl (by kernel_rfl) (by kernel_rfl) (by kernel_rfl) (fun _ _ _ h => h) (.inl ⟨rfl, fun w' hSw => ?h1_0_1⟩) hS ?_
      case h1_0_1 => (go_simp; first | done | with_reducible rfl)
      simp only [Act.put, List.setIfInBounds_toArray, List.set_cons_zero, List.set_cons_succ]
      refine takeAny 1 (dN := some 25) (v := ?v1_1_2) rfl rfl (by kernel_rfl) (by kernel_rfl) (by kernel_rfl) (fun _ _ _ h => h) (.inl ⟨rfl, fun w' hSw => ?h1_1_2⟩) hS ?_
      case h1_1_2 => (go_simp; first | done | with_reducible rfl)
      simp only [Act.put, List.setIfInBounds_toArray, List.set_cons_zero, List.set_cons_succ]
      refine takeAny 2 (dN := some 26) (v := ?v1_2_3) rfl rfl (by kernel_rfl) (by kernel_rfl) (by kernel_rfl) (fun _ _ _ h => h) (.inl ⟨rfl, fun w' hSw => ?h1_2_3⟩) hS ?_
      case h1_2_3 => (go_simp; first | done | with_reducible rfl)
      simp only [Act.put, List.setIfInBounds_toArray, List.set_cons_zero, List.set_cons_succ]
      refine takeAny 3 (dN := some 27) (v := ?v1_3_4) rfl rfl (by kernel_rfl) (by kernel_rfl) (by kernel_rfl) (fun _ _ _ h => h) (.inl ⟨rfl, fun w' hSw => ?h1_3_4⟩) hS ?_
      case h1_3_4 => (go_simp; first | done | with_reducible rfl)
      simp only [Act.put, List.setIfInBounds_toArray, List.set_cons_zero, List.set_cons_succ]
      refine takeRow 4 rfl rfl (by kernel_rfl) (by kernel_rfl) (by kernel_rfl) (fun _ _ _ h => h) rfl rfl rfl Try.underlying61 rfl (fun w h => h.2.1) sizeK hS ?_
      simp only [Act.put, List.setIfInBounds_toArray, List.set_cons_zero, List.set_cons_succ]
      refine takeAny 5 (dN := some 29) (v := ?v1_5_6) rfl rfl (by kernel_rfl) (by kernel_rfl) (by kernel_rfl) (fun _ _ _ h => h) (.inl ⟨rfl, fun w' hSw => ?h1_5_6⟩) hS ?_
      case h1_5_6 => (go_simp; first | done | with_reducible rfl)
      simp only [Act.put, List.setIfInBounds_toArray, List.set_cons_zero, List.set_cons_succ]
      refine takeAny 6 (dN := some 23) (v := ?v1_6_7) rfl rfl (by kernel_rfl) (by kernel_rfl) (by kernel_rfl) (fun _ _ _ h => h) (.inl ⟨rfl, fun w' hSw => ?h1_6_7⟩) hS ?_
      case h1_6_7 => (go_simp; first | done | with_reducible rfl)
      simp only [Act.put, List.setIfInBounds_toArray, List.set_cons_zero, List.set_cons_succ]
      refine takeAny 7 (dN := some 30) (v := ?v1_7_8) rfl rfl (by kernel_rfl) (by kernel_rfl) (by kernel_rfl) (fun _ _ _ h => h) (.inl ⟨rfl, fun w' hSw => ?h1_7_8⟩) hS ?_
      case h1_7_8 => (go_simp; first | done | with_reducible rfl)
      simp only [Act.put, List.setIfInBounds_toArray, List.set_cons_zero, List.set_cons_succ]
      refine takeAny 8 (dN := some 31) (v := ?v1_8_9) rfl rfl (by kernel_rfl) (by kernel_rfl) (by kernel_rfl) (fun _ _ _ h => h) (.inl ⟨rfl, fun w' hSw => ?h1_8_9⟩) hS ?_
      case h1_8_9 => (go_simp; first | done | with_reducible rfl)
      simp only [Act.put, List.setIfInBounds_toArray, List.set_cons_zero, List.set_cons_succ]
      refine takeAny 9 (dN := some 8) (v := ?v1_9_10) rfl rfl (by kernel_rfl) (by kernel_rfl) (by kernel_rfl) (fun _ _ _ h => h) (.inl ⟨rfl, fun w' hSw => ?h1_9_10⟩) hS ?_
      case h1_9_10 => (go_simp; first | done | with_reducible rfl)
      simp only [Act.put, List.setIfInBounds_toArray, List.set_cons_zero, List.set_cons_succ]
      refine takeAny 10 (dN := some 9) (v := ?v1_10_11) rfl rfl (by kernel_rfl) (by kernel_rfl) (by kernel_rfl) (fun _ _ _ h => h) (.inl ⟨rfl, fun w' hSw => ?h1_10_11⟩) hS ?_
      case h1_10_11 => (go_simp; first | done | with_reducible rfl)
      simp only [Act.put, List.setIfInBounds_toArray, List.set_cons_zero, List.set_cons_succ]
      refine wpAnyH_done (by kernel_rfl) ?_ _
      go_wp2
      go_ret
      exact ⟨by rw [E.out, Int.toNat_natCast]; rfl, HS1.out.mono (Nat.le_add_right _ _), below_grown HB1.out _⟩
    case inl =>
      rw [b] at LK
      have HM := Aside0.mk hM
      have HO := Aside0.mk ho
      have HS1 := Aside0.mk S1
      have HB1 := Aside0.mk hb1
      have HK1 := Aside0.mk k1
      clear hb1 S1 hM ho hv hc hc' b
      refine wp_region_held_drew (S := fun w' => w'.cell? ⟨p, 3, none⟩ = some (.map (some bm)) ∧ w'.heap[w.heap.size]? = some (.cells #[.int .i64 d, .int .i64 h] 61 (0, 0)) ∧ (Instr.lookup 57 (.map (some bm)) (.agg #[.int .i64 d, .int .i64 h]) true).run Try.prog w' = .ok (.tuple #[.int .i64 c, .bool false]) w') (by kernel_rfl) ⟨c3, k1, LK⟩ (fun hS => ?_)
      refine takeAny 0 (dN := some 24) (v := ?v2_0_1) rfl rfl (by kernel_rfl) (by kernel_rfl) (by kernel_rfl) (fun _ _ _ h => h) (.inl ⟨rfl, fun w' hSw => ?h2_0_1⟩) hS ?_
      case h2_0_1 => (go_simp; first | done | with_reducible rfl)
      simp only [Act.put, List.setIfInBounds_toArray, List.set_cons_zero, List.set_cons_succ]
      refine takeAny 1 (dN := some 25) (v := ?v2_1_2) rfl rfl (by kernel_rfl) (by kernel_rfl) (by kernel_rfl) (fun _ _ _ h => h) (.inl ⟨rfl, fun w' hSw => ?h2_1_2⟩) hS ?_
      case h2_1_2 => (go_simp; first | done | with_reducible rfl)
      simp only [Act.put, List.setIfInBounds_toArray, List.set_cons_zero, List.set_cons_succ]
      refine takeAny 2 (dN := some 26) (v := ?v2_2_3) rfl rfl (by kernel_rfl) (by kernel_rfl) (by kernel_rfl) (fun _ _ _ h => h) (.inl ⟨rfl, fun w' hSw => ?h2_2_3⟩) hS ?_
      case h2_2_3 => (go_simp; first | done | with_reducible rfl)
      simp only [Act.put, List.setIfInBounds_toArray, List.set_cons_zero, List.set_cons_succ]
      refine takeAny 3 (dN := some 27) (v := ?v2_3_4) rfl rfl (by kernel_rfl) (by kernel_rfl) (by kernel_rfl) (fun _ _ _ h => h) (.inl ⟨rfl, fun w' hSw => ?h2_3_4⟩) hS ?_
      case h2_3_4 => (go_simp; first | done | with_reducible rfl)
      simp only [Act.put, List.setIfInBounds_toArray, List.set_cons_zero, List.set_cons_succ]
      refine takeRow 4 rfl rfl (by kernel_rfl) (by kernel_rfl) (by kernel_rfl) (fun _ _ _ h => h) rfl rfl rfl Try.underlying61 rfl (fun w h => h.2.1) sizeK hS ?_
      simp only [Act.put, List.setIfInBounds_toArray, List.set_cons_zero, List.set_cons_succ]
      refine takeAny 5 (dN := some 29) (v := ?v2_5_6) rfl rfl (by kernel_rfl) (by kernel_rfl) (by kernel_rfl) (fun _ _ _ h => h) (.inl ⟨rfl, fun w' hSw => ?h2_5_6⟩) hS ?_
      case h2_5_6 => (go_simp; first | done | with_reducible rfl)
      simp only [Act.put, List.setIfInBounds_toArray, List.set_cons_zero, List.set_cons_succ]
      refine takeAny 6 (dN := some 23) (v := ?v2_6_7) rfl rfl (by kernel_rfl) (by kernel_rfl) (by kernel_rfl) (fun _ _ _ h => h) (.inl ⟨rfl, fun w' hSw => ?h2_6_7⟩) hS ?_
      case h2_6_7 => (go_simp; first | done | with_reducible rfl)
      simp only [Act.put, List.setIfInBounds_toArray, List.set_cons_zero, List.set_cons_succ]
      refine takeAny 7 (dN := some 30) (v := ?v2_7_8) rfl rfl (by kernel_rfl) (by kernel_rfl) (by kernel_rfl) (fun _ _ _ h => h) (.inl ⟨rfl, fun w' hSw => ?h2_7_8⟩) hS ?_
      case h2_7_8 => (go_simp; first | done | with_reducible rfl)
      simp only [Act.put, List.setIfInBounds_toArray, List.set_cons_zero, List.set_cons_succ]
      refine takeAny 8 (dN := some 31) (v := ?v2_8_9) rfl rfl (by kernel_rfl) (by kernel_rfl) (by kernel_rfl) (fun _ _ _ h => h) (.inl ⟨rfl, fun w' hSw => ?h2_8_9⟩) hS ?_
      case h2_8_9 => (go_simp; first | done | with_reducible rfl)
      simp only [Act.put, List.setIfInBounds_toArray, List.set_cons_zero, List.set_cons_succ]
      refine takeAny 9 (dN := some 8) (v := ?v2_9_10) rfl rfl (by kernel_rfl) (by kernel_rfl) (by kernel_rfl) (fun _ _ _ h => h) (.inl ⟨rfl, fun w' hSw => ?h2_9_10⟩) hS ?_
      case h2_9_10 => (go_simp; first | done | with_reducible rfl)
      simp only [Act.put, List.setIfInBounds_toArray, List.set_cons_zero, List.set_cons_succ]
      refine takeAny 10 (dN := some 9) (v := ?v2_10_11) rfl rfl (by kernel_rfl) (by kernel_rfl) (by kernel_rfl) (fun _ _ _ h => h) (.inl ⟨rfl, fun w' hSw => ?h2_10_11⟩) hS ?_
      case h2_10_11 => (go_simp; first | done | with_reducible rfl)
      simp only [Act.put, List.setIfInBounds_toArray, List.set_cons_zero, List.set_cons_succ]
      refine wpAnyH_done (by kernel_rfl) ?_ _
      generalize (w.alloc (.cells #[.int .i64 d, .int .i64 h] 61)).drew = W1 at *
      clear hS c3 k1 LK
      have hbw : Below wB.heap.size wB W1 := HB.out.trans (HB1.out.mono HB.out.size)
      obtain ⟨ad, eA, hx0, hx1⟩ := at_T43 HR0.out (d : Int) (by omega) (by omega)
      cases eA
      rw [Int.toNat_natCast] at hx0 hx1
      replace hx0 := (hbw.cell (World.block_lt_of_cell? wB _ hx0)).trans hx0
      replace hx1 := (hbw.cell (World.block_lt_of_cell? wB _ hx1)).trans hx1
      have hu := Try.underlying43
      have hgb := HG.out _ (rd_mem xs d dlt)
      obtain ⟨g, hgd⟩ : ∃ g, g = grOf (rd_T43 xs d) := ⟨_, rfl⟩
      have hgr : impl_Weather_grows.f (rd_T43 xs d).f0 (rd_T43 xs d).f1 = some g := by rw [hgd]; exact grOf_is _
      rw [← hgd] at hgb DR
      have HGR := Aside0.mk hgr
      have c0 := (blkC HS1.out.cells 0).trans rfl
      have c1 := (blkC HS1.out.cells 1).trans rfl
      have c2 := (blkC HS1.out.cells 2).trans rfl
      have pd : (0 ≤ (d : Int)) = True := eq_true (by omega)
      have qd : ((d : Int) < (xs.length : Int)) = True := eq_true (by omega)
      have x1 : IntKind.i64.wrap (h + g) = h + g := IntWalk.i64_in _ (by omega)
      clear hgr hgd
      obtain ⟨m, hm⟩ : ∃ m, (if cut < h then cut else h) = m := ⟨_, rfl⟩
      have hmb : 0 ≤ m ∧ m ≤ 200 ∧ min h cut = m := by rw [← hm]; split <;> omega
      obtain ⟨L1, hL1⟩ : ∃ L, leastP cut most ((xs.map grOf).drop (d + 1)) (h + g) = L := ⟨_, rfl⟩
      obtain ⟨L2, hL2⟩ : ∃ L, leastP cut most ((xs.map grOf).drop (d + 1)) (m + g) = L := ⟨_, rfl⟩
      have hi1 := leastP_in cut most ((xs.map grOf).drop (d + 1)) (h + g)
      have hi2 := leastP_in cut most ((xs.map grOf).drop (d + 1)) (m + g)
      have hL : leastP cut most ((xs.map grOf).drop d) h = if m + g ≤ most then min (if h + g ≤ most then L1 else 1000) (1 + L2) else (if h + g ≤ most then L1 else 1000) := by rw [DR.out, leastP, hmb.2.2, hL1, hL2]
      rw [hL1] at hi1
      rw [hL2] at hi2
      have ed : ((d + 1 : Nat) : Int) = (d : Int) + 1 := by omega
      have IH1 : h + g ≤ most → ∀ N w, N + cntL n ≤ 1000000000000 → Below wB.heap.size wB w → PS cut most (xs.map grOf) (some ad) xs.length cp p bm bc N w → Calls Try.prog 24 #[.pointer (some ⟨p, 0, none⟩), .int .i64 ((d : Int) + 1), .int .i64 (h + g)] w fun e w' => e = .returned (.int .i64 L1) ∧ PS cut most (xs.map grOf) (some ad) xs.length cp p bm bc (N + cntL n) w' ∧ w.grownBy w' (some bm) := fun a N w b c e => by
        have := IH.out (d + 1) (by omega) (h + g) (by omega) (by omega) N b w c e
        rw [hL1, ed] at this
        exact this
      have IH2 : m + g ≤ most → ∀ N w, N + cntL n ≤ 1000000000000 → Below wB.heap.size wB w → PS cut most (xs.map grOf) (some ad) xs.length cp p bm bc N w → Calls Try.prog 24 #[.pointer (some ⟨p, 0, none⟩), .int .i64 ((d : Int) + 1), .int .i64 (m + g)] w fun e w' => e = .returned (.int .i64 L2) ∧ PS cut most (xs.map grOf) (some ad) xs.length cp p bm bc (N + cntL n) w' ∧ w.grownBy w' (some bm) := fun a N w b c e => by
        have := IH.out (d + 1) (by omega) (m + g) (by omega) (by omega) N b w c e
        rw [hL2, ed] at this
        exact this
      have HL := Aside0.mk hL
      have HBW := Aside0.mk hbw
      have hN1 : N + cntL n ≤ 1000000000000 := by simp only [cntL] at hN; omega
      have hN2 : N + cntL n + cntL n ≤ 1000000000000 := by simp only [cntL] at hN; omega
      have hNb : ∀ M, M ≤ N + cntL n + cntL n → M < maxLen := fun M h => Nat.lt_of_le_of_lt (Nat.le_trans h hN2) (by decide)
      have hNc : ∀ M, M ≤ N + cntL n + cntL n → M + 1 ≤ N + cntL (n + 1) := fun M h => by simp only [cntL]; omega
      have HNB := Aside0.mk hNb
      have HNC := Aside0.mk hNc
      have bmlt := HS.out.lt
      have pne := HS.out.ne
      have wd : wfI (d : Int) := wfi (by omega) (by omega)
      have wh : wfI h := wfi (by omega) (by omega)
      have x3 : IntKind.i64.wrap (m + g) = m + g := IntWalk.i64_in _ (by omega)
      have x4 : IntKind.i64.wrap (1 + L2) = 1 + L2 := IntWalk.i64_in _ (by omega)
      have x2 : IntKind.i64.wrap ((d : Int) + 1) = (d : Int) + 1 := IntWalk.i64_in _ (by omega)
      clear hL hL1 hL2 ed hbw hN hNb hNc hmb
      by_cases ha : h + g ≤ most
      · have had : decide (h + g ≤ most) = true := decide_eq_true ha
        have IH1 := IH1 ha
        by_cases hb : m + g ≤ most
        · have hbd : decide (m + g ≤ most) = true := decide_eq_true hb
          have IH2 := IH2 hb
          obtain ⟨F, hF⟩ : ∃ F, (if 1 + L2 < L1 then 1 + L2 else L1) = F := ⟨_, rfl⟩
          have hFl : leastP cut most ((xs.map grOf).drop d) h = F := by rw [HL.out, if_pos hb, if_pos ha, ← hF]; split <;> omega
          have hFb : 0 ≤ F ∧ F ≤ 2000 := by rw [← hF]; split <;> omega
          have HF := Aside0.mk hFl
          clear hFl
          clear ha hb
          go_wp2_with (first | (go_at_call 27; refine (impl_Weather_grows.calls _ _ g _ HGR.out).mono ?_; rintro e w5 ⟨rfl, hb5⟩; have S5 := HS1.out.below hb5; have k5 := blkB hb5 HK1.out (blkLt HK1.out); have hB5 : Below wB.heap.size wB w5 := HBW.out.trans (hb5.mono HBW.out.size); have c0 := (blkC S5.cells 0).trans rfl; have c1 := (blkC S5.cells 1).trans rfl; have c3 := (blkC S5.cells 3).trans rfl; have G5 := Aside0.mk (below_grown (belW (HB1.out) hb5) (some bm))) | (go_at_call 24; refine (IH1 N _ hN1 hB5 S5).mono ?_; clear IH1; rintro e w6 ⟨rfl, S6, g6⟩; have k6 := grown_blk g6 k5 (by omega); have hB6 : Below wB.heap.size wB w6 := Below.grown hB5 g6 hB5.size (fun k e => by cases e; exact hbB); have c0 := (blkC S6.cells 0).trans rfl; have c1 := (blkC S6.cells 1).trans rfl; have c3 := (blkC S6.cells 3).trans rfl; have G6 := Aside0.mk (grown_trans G5.out g6)) | (go_at_call 24; refine (IH2 (N + cntL n) _ (by omega) hB6 S6).mono ?_; clear IH2; rintro e w7 ⟨rfl, S7, g7⟩; have k7 := grown_blk g7 k6 (by omega); have hB7 : Below wB.heap.size wB w7 := Below.grown hB6 g7 hB6.size (fun k e => by cases e; exact hbB); have c0 := (blkC S7.cells 0).trans rfl; have c1 := (blkC S7.cells 1).trans rfl; have c3 := (blkC S7.cells 3).trans rfl; have G7 := Aside0.mk (grown_trans G6.out g7)))
          have kD : w7.drew.heap[w.heap.size]? = some (.cells #[.int .i64 d, .int .i64 h] 61 (0, 0)) := blkD k7
          have cD : w7.drew.cell? ⟨p, 3, none⟩ = some (.map (some bm)) := c3
          obtain ⟨D3, ho3, hM3⟩ := S7.memo
          have HM3 := Aside0.mk hM3
          refine wp_region_held_drew (S := fun w' => w'.cell? ⟨p, 3, none⟩ = some (.map (some bm)) ∧ w'.heap[w.heap.size]? = some (.cells #[.int .i64 d, .int .i64 h] 61 (0, 0))) (by kernel_rfl) ⟨cD, kD⟩ (fun hS => ?_)
          refine takeAny 0 (dN := some 79) (v := ?v3_0_1) rfl rfl (by kernel_rfl) (by kernel_rfl) (by kernel_rfl) (fun _ _ _ h => h) (.inl ⟨rfl, fun w' hSw => ?h3_0_1⟩) hS ?_
          case h3_0_1 => (go_simp; first | done | with_reducible rfl)
          simp only [Act.put, List.setIfInBounds_toArray, List.set_cons_zero, List.set_cons_succ]
          refine takeAny 1 (dN := some 80) (v := ?v3_1_2) rfl rfl (by kernel_rfl) (by kernel_rfl) (by kernel_rfl) (fun _ _ _ h => h) (.inl ⟨rfl, fun w' hSw => ?h3_1_2⟩) hS ?_
          case h3_1_2 => (go_simp; first | done | with_reducible rfl)
          simp only [Act.put, List.setIfInBounds_toArray, List.set_cons_zero, List.set_cons_succ]
          refine takeAny 2 (dN := some 81) (v := ?v3_2_3) rfl rfl (by kernel_rfl) (by kernel_rfl) (by kernel_rfl) (fun _ _ _ h => h) (.inl ⟨rfl, fun w' hSw => ?h3_2_3⟩) hS ?_
          case h3_2_3 => (go_simp; first | done | with_reducible rfl)
          simp only [Act.put, List.setIfInBounds_toArray, List.set_cons_zero, List.set_cons_succ]
          refine takeAny 3 (dN := some 82) (v := ?v3_3_4) rfl rfl (by kernel_rfl) (by kernel_rfl) (by kernel_rfl) (fun _ _ _ h => h) (.inl ⟨rfl, fun w' hSw => ?h3_3_4⟩) hS ?_
          case h3_3_4 => (go_simp; first | done | with_reducible rfl)
          simp only [Act.put, List.setIfInBounds_toArray, List.set_cons_zero, List.set_cons_succ]
          refine takeRow 4 rfl rfl (by kernel_rfl) (by kernel_rfl) (by kernel_rfl) (fun _ _ _ h => h) rfl rfl rfl Try.underlying61 rfl (fun w h => h.2) sizeK hS ?_
          simp only [Act.put, List.setIfInBounds_toArray, List.set_cons_zero, List.set_cons_succ]
          refine takeAny 5 (dN := some 84) (v := ?v3_5_6) rfl rfl (by kernel_rfl) (by kernel_rfl) (by kernel_rfl) (fun _ _ _ h => h) (.inl ⟨rfl, fun w' hSw => ?h3_5_6⟩) hS ?_
          case h3_5_6 => (go_simp; first | done | with_reducible rfl)
          simp only [Act.put, List.setIfInBounds_toArray, List.set_cons_zero, List.set_cons_succ]
          refine wpAnyH_ready (rs := [6]) (by kernel_rfl) (by simp) (AllReadyH.cons rfl (fun K hK => ?_) AllReadyH.nil)
          (refine mapStep rfl rfl rfl arrK Try.underlying57 rfl ho3.drew (HNB.out _ (by omega)) rfl rfl (keyL_is wd wh) (plainElem_int Try.underlying2 (wfi (by omega) (by omega))) ?_; intro w8 ho8 hg8; refine hK.out _ _ ⟨hg8.cell hS.1 (by simp; omega), grown_blk hg8 hS.2 (by omega)⟩ (fun hS => ?_); clear hK)
          refine wpAnyH_done (by kernel_rfl) ?_ _
          go_wp2
          go_ret
          have P8 : PS cut most (xs.map grOf) (some ad) xs.length cp p bm bc ((N + cntL n + cntL n) + 1) w8 := by
            refine ⟨grown_blk hg8 (blkD S7.cells) (by omega), _, ho8, ?_⟩
            have := HM3.out.put wd wh
            rw [Int.toNat_natCast, HF.out] at this
            exact this
          exact ⟨by rw [HF.out]; rfl, P8.mono (HNC.out _ (by omega)), grown_trans (grown_trans G7.out (below_grown (belD (Below.refl _ _)) _)) hg8⟩
        · have hbd : decide (m + g ≤ most) = false := decide_eq_false hb
          clear IH2
          have hFl : leastP cut most ((xs.map grOf).drop d) h = L1 := by rw [HL.out, if_neg hb, if_pos ha]
          have HF := Aside0.mk hFl
          clear hFl
          clear ha hb
          go_wp2_with (first | (go_at_call 27; refine (impl_Weather_grows.calls _ _ g _ HGR.out).mono ?_; rintro e w5 ⟨rfl, hb5⟩; have S5 := HS1.out.below hb5; have k5 := blkB hb5 HK1.out (blkLt HK1.out); have hB5 : Below wB.heap.size wB w5 := HBW.out.trans (hb5.mono HBW.out.size); have c0 := (blkC S5.cells 0).trans rfl; have c1 := (blkC S5.cells 1).trans rfl; have c3 := (blkC S5.cells 3).trans rfl; have G5 := Aside0.mk (below_grown (belW (HB1.out) hb5) (some bm))) | (go_at_call 24; refine (IH1 N _ hN1 hB5 S5).mono ?_; clear IH1; rintro e w6 ⟨rfl, S6, g6⟩; have k6 := grown_blk g6 k5 (by omega); have hB6 : Below wB.heap.size wB w6 := Below.grown hB5 g6 hB5.size (fun k e => by cases e; exact hbB); have c0 := (blkC S6.cells 0).trans rfl; have c1 := (blkC S6.cells 1).trans rfl; have c3 := (blkC S6.cells 3).trans rfl; have G6 := Aside0.mk (grown_trans G5.out g6)))
          have kD : w6.drew.heap[w.heap.size]? = some (.cells #[.int .i64 d, .int .i64 h] 61 (0, 0)) := blkD k6
          have cD : w6.drew.cell? ⟨p, 3, none⟩ = some (.map (some bm)) := c3
          obtain ⟨D3, ho3, hM3⟩ := S6.memo
          have HM3 := Aside0.mk hM3
          refine wp_region_held_drew (S := fun w' => w'.cell? ⟨p, 3, none⟩ = some (.map (some bm)) ∧ w'.heap[w.heap.size]? = some (.cells #[.int .i64 d, .int .i64 h] 61 (0, 0))) (by kernel_rfl) ⟨cD, kD⟩ (fun hS => ?_)
          refine takeAny 0 (dN := some 79) (v := ?v4_0_1) rfl rfl (by kernel_rfl) (by kernel_rfl) (by kernel_rfl) (fun _ _ _ h => h) (.inl ⟨rfl, fun w' hSw => ?h4_0_1⟩) hS ?_
          case h4_0_1 => (go_simp; first | done | with_reducible rfl)
          simp only [Act.put, List.setIfInBounds_toArray, List.set_cons_zero, List.set_cons_succ]
          refine takeAny 1 (dN := some 80) (v := ?v4_1_2) rfl rfl (by kernel_rfl) (by kernel_rfl) (by kernel_rfl) (fun _ _ _ h => h) (.inl ⟨rfl, fun w' hSw => ?h4_1_2⟩) hS ?_
          case h4_1_2 => (go_simp; first | done | with_reducible rfl)
          simp only [Act.put, List.setIfInBounds_toArray, List.set_cons_zero, List.set_cons_succ]
          refine takeAny 2 (dN := some 81) (v := ?v4_2_3) rfl rfl (by kernel_rfl) (by kernel_rfl) (by kernel_rfl) (fun _ _ _ h => h) (.inl ⟨rfl, fun w' hSw => ?h4_2_3⟩) hS ?_
          case h4_2_3 => (go_simp; first | done | with_reducible rfl)
          simp only [Act.put, List.setIfInBounds_toArray, List.set_cons_zero, List.set_cons_succ]
          refine takeAny 3 (dN := some 82) (v := ?v4_3_4) rfl rfl (by kernel_rfl) (by kernel_rfl) (by kernel_rfl) (fun _ _ _ h => h) (.inl ⟨rfl, fun w' hSw => ?h4_3_4⟩) hS ?_
          case h4_3_4 => (go_simp; first | done | with_reducible rfl)
          simp only [Act.put, List.setIfInBounds_toArray, List.set_cons_zero, List.set_cons_succ]
          refine takeRow 4 rfl rfl (by kernel_rfl) (by kernel_rfl) (by kernel_rfl) (fun _ _ _ h => h) rfl rfl rfl Try.underlying61 rfl (fun w h => h.2) sizeK hS ?_
          simp only [Act.put, List.setIfInBounds_toArray, List.set_cons_zero, List.set_cons_succ]
          refine takeAny 5 (dN := some 84) (v := ?v4_5_6) rfl rfl (by kernel_rfl) (by kernel_rfl) (by kernel_rfl) (fun _ _ _ h => h) (.inl ⟨rfl, fun w' hSw => ?h4_5_6⟩) hS ?_
          case h4_5_6 => (go_simp; first | done | with_reducible rfl)
          simp only [Act.put, List.setIfInBounds_toArray, List.set_cons_zero, List.set_cons_succ]
          refine wpAnyH_ready (rs := [6]) (by kernel_rfl) (by simp) (AllReadyH.cons rfl (fun K hK => ?_) AllReadyH.nil)
          (refine mapStep rfl rfl rfl arrK Try.underlying57 rfl ho3.drew (HNB.out _ (by omega)) rfl rfl (keyL_is wd wh) (plainElem_int Try.underlying2 (wfi (by omega) (by omega))) ?_; intro w8 ho8 hg8; refine hK.out _ _ ⟨hg8.cell hS.1 (by simp; omega), grown_blk hg8 hS.2 (by omega)⟩ (fun hS => ?_); clear hK)
          refine wpAnyH_done (by kernel_rfl) ?_ _
          go_wp2
          go_ret
          have P8 : PS cut most (xs.map grOf) (some ad) xs.length cp p bm bc ((N + cntL n) + 1) w8 := by
            refine ⟨grown_blk hg8 (blkD S6.cells) (by omega), _, ho8, ?_⟩
            have := HM3.out.put wd wh
            rw [Int.toNat_natCast, HF.out] at this
            exact this
          exact ⟨by rw [HF.out]; rfl, P8.mono (HNC.out _ (by omega)), grown_trans (grown_trans G6.out (below_grown (belD (Below.refl _ _)) _)) hg8⟩
      · have had : decide (h + g ≤ most) = false := decide_eq_false ha
        clear IH1
        by_cases hb : m + g ≤ most
        · have hbd : decide (m + g ≤ most) = true := decide_eq_true hb
          have IH2 := IH2 hb
          obtain ⟨F, hF⟩ : ∃ F, (if 1 + L2 < 1000 then 1 + L2 else 1000) = F := ⟨_, rfl⟩
          have hFl : leastP cut most ((xs.map grOf).drop d) h = F := by rw [HL.out, if_pos hb, if_neg ha, ← hF]; split <;> omega
          have hFb : 0 ≤ F ∧ F ≤ 2000 := by rw [← hF]; split <;> omega
          have HF := Aside0.mk hFl
          clear hFl
          clear ha hb
          go_wp2_with (first | (go_at_call 27; refine (impl_Weather_grows.calls _ _ g _ HGR.out).mono ?_; rintro e w5 ⟨rfl, hb5⟩; have S5 := HS1.out.below hb5; have k5 := blkB hb5 HK1.out (blkLt HK1.out); have hB5 : Below wB.heap.size wB w5 := HBW.out.trans (hb5.mono HBW.out.size); have c0 := (blkC S5.cells 0).trans rfl; have c1 := (blkC S5.cells 1).trans rfl; have c3 := (blkC S5.cells 3).trans rfl; have G5 := Aside0.mk (below_grown (belW (HB1.out) hb5) (some bm))) | (go_at_call 24; refine (IH2 N _ (by omega) hB5 S5).mono ?_; clear IH2; rintro e w7 ⟨rfl, S7, g7⟩; have k7 := grown_blk g7 k5 (by omega); have hB7 : Below wB.heap.size wB w7 := Below.grown hB5 g7 hB5.size (fun k e => by cases e; exact hbB); have c0 := (blkC S7.cells 0).trans rfl; have c1 := (blkC S7.cells 1).trans rfl; have c3 := (blkC S7.cells 3).trans rfl; have G7 := Aside0.mk (grown_trans G5.out g7)))
          have kD : w7.drew.heap[w.heap.size]? = some (.cells #[.int .i64 d, .int .i64 h] 61 (0, 0)) := blkD k7
          have cD : w7.drew.cell? ⟨p, 3, none⟩ = some (.map (some bm)) := c3
          obtain ⟨D3, ho3, hM3⟩ := S7.memo
          have HM3 := Aside0.mk hM3
          refine wp_region_held_drew (S := fun w' => w'.cell? ⟨p, 3, none⟩ = some (.map (some bm)) ∧ w'.heap[w.heap.size]? = some (.cells #[.int .i64 d, .int .i64 h] 61 (0, 0))) (by kernel_rfl) ⟨cD, kD⟩ (fun hS => ?_)
          refine takeAny 0 (dN := some 79) (v := ?v5_0_1) rfl rfl (by kernel_rfl) (by kernel_rfl) (by kernel_rfl) (fun _ _ _ h => h) (.inl ⟨rfl, fun w' hSw => ?h5_0_1⟩) hS ?_
          case h5_0_1 => (go_simp; first | done | with_reducible rfl)
          simp only [Act.put, List.setIfInBounds_toArray, List.set_cons_zero, List.set_cons_succ]
          refine takeAny 1 (dN := some 80) (v := ?v5_1_2) rfl rfl (by kernel_rfl) (by kernel_rfl) (by kernel_rfl) (fun _ _ _ h => h) (.inl ⟨rfl, fun w' hSw => ?h5_1_2⟩) hS ?_
          case h5_1_2 => (go_simp; first | done | with_reducible rfl)
          simp only [Act.put, List.setIfInBounds_toArray, List.set_cons_zero, List.set_cons_succ]
          refine takeAny 2 (dN := some 81) (v := ?v5_2_3) rfl rfl (by kernel_rfl) (by kernel_rfl) (by kernel_rfl) (fun _ _ _ h => h) (.inl ⟨rfl, fun w' hSw => ?h5_2_3⟩) hS ?_
          case h5_2_3 => (go_simp; first | done | with_reducible rfl)
          simp only [Act.put, List.setIfInBounds_toArray, List.set_cons_zero, List.set_cons_succ]
          refine takeAny 3 (dN := some 82) (v := ?v5_3_4) rfl rfl (by kernel_rfl) (by kernel_rfl) (by kernel_rfl) (fun _ _ _ h => h) (.inl ⟨rfl, fun w' hSw => ?h5_3_4⟩) hS ?_
          case h5_3_4 => (go_simp; first | done | with_reducible rfl)
          simp only [Act.put, List.setIfInBounds_toArray, List.set_cons_zero, List.set_cons_succ]
          refine takeRow 4 rfl rfl (by kernel_rfl) (by kernel_rfl) (by kernel_rfl) (fun _ _ _ h => h) rfl rfl rfl Try.underlying61 rfl (fun w h => h.2) sizeK hS ?_
          simp only [Act.put, List.setIfInBounds_toArray, List.set_cons_zero, List.set_cons_succ]
          refine takeAny 5 (dN := some 84) (v := ?v5_5_6) rfl rfl (by kernel_rfl) (by kernel_rfl) (by kernel_rfl) (fun _ _ _ h => h) (.inl ⟨rfl, fun w' hSw => ?h5_5_6⟩) hS ?_
          case h5_5_6 => (go_simp; first | done | with_reducible rfl)
          simp only [Act.put, List.setIfInBounds_toArray, List.set_cons_zero, List.set_cons_succ]
          refine wpAnyH_ready (rs := [6]) (by kernel_rfl) (by simp) (AllReadyH.cons rfl (fun K hK => ?_) AllReadyH.nil)
          (refine mapStep rfl rfl rfl arrK Try.underlying57 rfl ho3.drew (HNB.out _ (by omega)) rfl rfl (keyL_is wd wh) (plainElem_int Try.underlying2 (wfi (by omega) (by omega))) ?_; intro w8 ho8 hg8; refine hK.out _ _ ⟨hg8.cell hS.1 (by simp; omega), grown_blk hg8 hS.2 (by omega)⟩ (fun hS => ?_); clear hK)
          refine wpAnyH_done (by kernel_rfl) ?_ _
          go_wp2
          go_ret
          have P8 : PS cut most (xs.map grOf) (some ad) xs.length cp p bm bc ((N + cntL n) + 1) w8 := by
            refine ⟨grown_blk hg8 (blkD S7.cells) (by omega), _, ho8, ?_⟩
            have := HM3.out.put wd wh
            rw [Int.toNat_natCast, HF.out] at this
            exact this
          exact ⟨by rw [HF.out]; rfl, P8.mono (HNC.out _ (by omega)), grown_trans (grown_trans G7.out (below_grown (belD (Below.refl _ _)) _)) hg8⟩
        · have hbd : decide (m + g ≤ most) = false := decide_eq_false hb
          clear IH2
          have hFl : leastP cut most ((xs.map grOf).drop d) h = 1000 := by rw [HL.out, if_neg hb, if_neg ha]
          have HF := Aside0.mk hFl
          clear hFl
          clear ha hb
          go_wp2_with (first | (go_at_call 27; refine (impl_Weather_grows.calls _ _ g _ HGR.out).mono ?_; rintro e w5 ⟨rfl, hb5⟩; have S5 := HS1.out.below hb5; have k5 := blkB hb5 HK1.out (blkLt HK1.out); have hB5 : Below wB.heap.size wB w5 := HBW.out.trans (hb5.mono HBW.out.size); have c0 := (blkC S5.cells 0).trans rfl; have c1 := (blkC S5.cells 1).trans rfl; have c3 := (blkC S5.cells 3).trans rfl; have G5 := Aside0.mk (below_grown (belW (HB1.out) hb5) (some bm))))
          have kD : w5.drew.heap[w.heap.size]? = some (.cells #[.int .i64 d, .int .i64 h] 61 (0, 0)) := blkD k5
          have cD : w5.drew.cell? ⟨p, 3, none⟩ = some (.map (some bm)) := c3
          obtain ⟨D3, ho3, hM3⟩ := S5.memo
          have HM3 := Aside0.mk hM3
          refine wp_region_held_drew (S := fun w' => w'.cell? ⟨p, 3, none⟩ = some (.map (some bm)) ∧ w'.heap[w.heap.size]? = some (.cells #[.int .i64 d, .int .i64 h] 61 (0, 0))) (by kernel_rfl) ⟨cD, kD⟩ (fun hS => ?_)
          refine takeAny 0 (dN := some 79) (v := ?v6_0_1) rfl rfl (by kernel_rfl) (by kernel_rfl) (by kernel_rfl) (fun _ _ _ h => h) (.inl ⟨rfl, fun w' hSw => ?h6_0_1⟩) hS ?_
          case h6_0_1 => (go_simp; first | done | with_reducible rfl)
          simp only [Act.put, List.setIfInBounds_toArray, List.set_cons_zero, List.set_cons_succ]
          refine takeAny 1 (dN := some 80) (v := ?v6_1_2) rfl rfl (by kernel_rfl) (by kernel_rfl) (by kernel_rfl) (fun _ _ _ h => h) (.inl ⟨rfl, fun w' hSw => ?h6_1_2⟩) hS ?_
          case h6_1_2 => (go_simp; first | done | with_reducible rfl)
          simp only [Act.put, List.setIfInBounds_toArray, List.set_cons_zero, List.set_cons_succ]
          refine takeAny 2 (dN := some 81) (v := ?v6_2_3) rfl rfl (by kernel_rfl) (by kernel_rfl) (by kernel_rfl) (fun _ _ _ h => h) (.inl ⟨rfl, fun w' hSw => ?h6_2_3⟩) hS ?_
          case h6_2_3 => (go_simp; first | done | with_reducible rfl)
          simp only [Act.put, List.setIfInBounds_toArray, List.set_cons_zero, List.set_cons_succ]
          refine takeAny 3 (dN := some 82) (v := ?v6_3_4) rfl rfl (by kernel_rfl) (by kernel_rfl) (by kernel_rfl) (fun _ _ _ h => h) (.inl ⟨rfl, fun w' hSw => ?h6_3_4⟩) hS ?_
          case h6_3_4 => (go_simp; first | done | with_reducible rfl)
          simp only [Act.put, List.setIfInBounds_toArray, List.set_cons_zero, List.set_cons_succ]
          refine takeRow 4 rfl rfl (by kernel_rfl) (by kernel_rfl) (by kernel_rfl) (fun _ _ _ h => h) rfl rfl rfl Try.underlying61 rfl (fun w h => h.2) sizeK hS ?_
          simp only [Act.put, List.setIfInBounds_toArray, List.set_cons_zero, List.set_cons_succ]
          refine takeAny 5 (dN := some 84) (v := ?v6_5_6) rfl rfl (by kernel_rfl) (by kernel_rfl) (by kernel_rfl) (fun _ _ _ h => h) (.inl ⟨rfl, fun w' hSw => ?h6_5_6⟩) hS ?_
          case h6_5_6 => (go_simp; first | done | with_reducible rfl)
          simp only [Act.put, List.setIfInBounds_toArray, List.set_cons_zero, List.set_cons_succ]
          refine wpAnyH_ready (rs := [6]) (by kernel_rfl) (by simp) (AllReadyH.cons rfl (fun K hK => ?_) AllReadyH.nil)
          (refine mapStep rfl rfl rfl arrK Try.underlying57 rfl ho3.drew (HNB.out _ (by omega)) rfl rfl (keyL_is wd wh) (plainElem_int Try.underlying2 (wfi (by omega) (by omega))) ?_; intro w8 ho8 hg8; refine hK.out _ _ ⟨hg8.cell hS.1 (by simp; omega), grown_blk hg8 hS.2 (by omega)⟩ (fun hS => ?_); clear hK)
          refine wpAnyH_done (by kernel_rfl) ?_ _
          go_wp2
          go_ret
          have P8 : PS cut most (xs.map grOf) (some ad) xs.length cp p bm bc (N + 1) w8 := by
            refine ⟨grown_blk hg8 (blkD S5.cells) (by omega), _, ho8, ?_⟩
            have := HM3.out.put wd wh
            rw [Int.toNat_natCast, HF.out] at this
            exact this
          exact ⟨by rw [HF.out]; rfl, P8.mono (HNC.out _ (by omega)), grown_trans (grown_trans G5.out (below_grown (belD (Below.refl _ _)) _)) hg8⟩
theorem cnt_le (n : Nat) (h : n ≤ 30) : 0 + cntL n ≤ 1000000000000 := by
  have : ∀ n, cntL n + 1 = 2 ^ n := by
    intro n
    induction n with
    | zero => rfl
    | succ n ih => rw [Nat.pow_succ, ← ih]; simp only [cntL]; omega
  have h1 := this n
  have h2 : 2 ^ n ≤ 2 ^ 30 := Nat.pow_le_pow_right (by omega) h
  have h3 : 2 ^ 30 = 1073741824 := by decide
  omega
set_option maxRecDepth 100000 in
set_option maxHeartbeats 1000000 in
theorem plannerC (cut most : Int) (gs : List Int) (A : Option Addr) (ln cp : Nat) (w : World) :
    Calls Try.prog 23 #[.int .i64 cut, .int .i64 most, .slice A ln cp] w fun e w' => e = .returned (.pointer (some ⟨w.heap.size + 1 + 1, 0, none⟩)) ∧ PS cut most gs A ln cp (w.heap.size + 1 + 1) w.heap.size (w.heap.size + 1) 0 w' ∧ Below w.heap.size w w' := by
  have hmm := @run_makeMap Try.prog
  go_enter Try.func23, Try.ntmps23
  go_wp2
  go_ret
  exact ⟨rfl, ⟨blkN (by simp), _, ((World.ownsMap_made w _ _ _).alloc _).alloc _, Memo.none _ _ _⟩, belA (belA (belA (Below.refl _ _)))⟩

theorem tripleC {w : World} {g : Nat} {t : TypeId} {a b c : Int} (h : w.heap[g]? = some (.cells #[.int .i64 a, .int .i64 b, .int .i64 c] t (0, 0))) : Kd.C (Kd.int .i64) w (some ⟨g, 0, none⟩) [a, b, c].length [a, b, c] := by
  refine ⟨rfl, by simp, fun _ => ⟨_, rfl, fun j p hj => ⟨[.int .i64 p], rfl, rfl, fun i u hi => ?_⟩⟩⟩
  match j, i with
  | 0, 0 => simp at hj hi; subst hj hi; exact (blkC h 0).trans rfl
  | 1, 0 => simp at hj hi; subst hj hi; exact (blkC h 1).trans rfl
  | 2, 0 => simp at hj hi; subst hj hi; exact (blkC h 2).trans rfl
  | 0, i + 1 => simp at hi
  | 1, i + 1 => simp at hi
  | 2, i + 1 => simp at hi
  | j + 3, _ => simp at hj
theorem PS.grown {cut most : Int} {gs : List Int} {A : Option Addr} {ln cp p bm bc N : Nat} {w w1 : World} {r : Option Nat} (S : PS cut most gs A ln cp p bm bc N w) (hg : w.grownBy w1 r) (hp : some p ≠ r) (hb : some bm ≠ r) : PS cut most gs A ln cp p bm bc N w1 := by
  obtain ⟨D, ho, hm⟩ := S.memo
  have hlt := ho.lt
  refine ⟨(hg.block p (blkLt S.cells) hp).trans S.cells, D, ?_, hm⟩
  exact ho.kept hg hb
theorem cnt30 (n : Nat) (h : n ≤ 30) : cntL n ≤ 1073741823 := by
  have : ∀ n, cntL n + 1 = 2 ^ n := by
    intro n
    induction n with
    | zero => rfl
    | succ n ih => rw [Nat.pow_succ, ← ih]; simp only [cntL]; omega
  have h1 := this n
  have h2 : 2 ^ n ≤ 2 ^ 30 := Nat.pow_le_pow_right (by omega) h
  have h3 : 2 ^ 30 = 1073741824 := by decide
  omega
/-- The days of the plan with the fewest. -/
def fewC (cut most : Int) : List Int → Int → Int → Int → List Int → List Int
  | [], _, _, _, acc => acc
  | g :: gs, d, h, left, acc => if 0 < left ∧ min h cut + g ≤ most ∧ leastP cut most gs (min h cut + g) = left - 1 then fewC cut most gs (d + 1) (min h cut + g) (left - 1) (acc ++ [d]) else fewC cut most gs (d + 1) (h + g) left acc
/-- What FewestMows answers where the days are as they must be. -/
def impl_FewestMows.f (k : Nat) (a0 : Int) (a1 : Int) (a2 : Int) (l3 : List (S43)) : Option (List Int × Int) :=
  (impl_lengthsCode.f k l3 [a0, a1, a2]).bind fun c => if c = 0 then (if 0 ≤ a0 ∧ a0 ≤ 200 ∧ 0 ≤ a1 ∧ a1 ≤ 200 ∧ 0 ≤ a2 ∧ a2 ≤ 200 ∧ l3.length ≤ 30 ∧ l3.all (fun x => decide (0 ≤ grOf x) && decide (grOf x ≤ 24)) = true then (if 1000 ≤ leastP a1 a2 (l3.map grOf) a0 then some ([], 6) else some (fewC a1 a2 (l3.map grOf) 0 a0 (leastP a1 a2 (l3.map grOf) a0) [], 0)) else none) else some ([], c)
theorem impl_FewestMows.mono : ∀ a0 a1 a2 a3 k, LeO (impl_FewestMows.f k a0 a1 a2 a3) (impl_FewestMows.f (k + 1) a0 a1 a2 a3) := by
  intro a0 a1 a2 a3 k r h
  unfold impl_FewestMows.f at h ⊢
  obtain ⟨c, h1, h2⟩ := Option.bind_eq_some_iff.mp h
  rw [impl_lengthsCode.mono _ _ _ _ h1]
  exact h2
set_option maxHeartbeats 8000000 in
set_option maxRecDepth 100000 in
theorem impl_FewestMows.calls (k : Nat) (a0 : Int) (a1 : Int) (a2 : Int) (A3 : Option Addr) (c3 : Nat) (l3 : List (S43)) (r1 : List Int) (r2 : Int) (w : World) (hr3 : Kd.C k43 w A3 l3.length l3) (hc3 : l3.length ≤ c3) (h : impl_FewestMows.f k a0 a1 a2 l3 = some (r1, r2)) :
    Calls Try.prog 11 #[.int .i64 a0, .int .i64 a1, .int .i64 a2, .slice A3 l3.length c3] w fun e w' => ∃ v0_ : Value, e = .returned (.tuple #[v0_, .int .i64 r2]) ∧ Kd.R (Kd.int .i64) 2 w' w.heap.size (fun _ => True) v0_ r1 ∧ Below w.heap.size w w' := by
  unfold impl_FewestMows.f at h
  obtain ⟨c, h1, h2⟩ := Option.bind_eq_some_iff.mp h
  have HC := Aside0.mk (fun (w : World) hr hs => impl_lengthsCode.calls k A3 c3 l3 (some ⟨w.heap.size, 0, none⟩) 3 [a0, a1, a2] c (w.alloc (.cells #[.int .i64 a0, .int .i64 a1, .int .i64 a2] 2)) hr hc3 hs (by simp) h1)
  have HR3 := Aside0.mk hr3
  clear h h1 hr3
  by_cases h0 : c = 0
  case neg =>
    rw [if_neg h0] at h2
    obtain ⟨rfl, rfl⟩ : [] = r1 ∧ c = r2 := by simpa using h2
    have q1 : (c == 0) = false := by simpa using h0
    have q2 : (c != 0) = true := by simpa using h0
    clear h2 h0
    go_enter Try.func11, Try.ntmps11
    go_wp2_with (first | (go_at_call 21; refine (HC.out w (Kd.C_alloc HR3.out _) (tripleC (blkN rfl))).mono ?_; rintro e w1 ⟨rfl, hb⟩))
    go_ret2
    exact ⟨_, rfl, Kd.R_nil _ _ _ _ _, belW (belA (Below.refl _ _)) hb⟩
  subst h0
  rw [if_pos rfl] at h2
  by_cases h4 : 0 ≤ a0 ∧ a0 ≤ 200 ∧ 0 ≤ a1 ∧ a1 ≤ 200 ∧ 0 ≤ a2 ∧ a2 ≤ 200 ∧ l3.length ≤ 30 ∧ l3.all (fun x => decide (0 ≤ grOf x) && decide (grOf x ≤ 24)) = true
  case neg => rw [if_neg h4] at h2; cases h2
  rw [if_pos h4] at h2
  obtain ⟨s0, s1, u0, u1, m0, m1, hl, hall⟩ := h4
  have hg : ∀ x ∈ l3, 0 ≤ grOf x ∧ grOf x ≤ 24 := fun x hx => by
    have := List.all_eq_true.1 hall x hx
    simpa using this
  have HG := Aside0.mk hg
  have HL := Aside0.mk hl
  have HCN := Aside0.mk (cnt_le _ hl)
  obtain ⟨L0, hL0⟩ : ∃ L, leastP a1 a2 (l3.map grOf) a0 = L := ⟨_, rfl⟩
  have hLi := leastP_in a1 a2 (l3.map grOf) a0
  rw [hL0] at h2 hLi
  have HP := Aside0.mk (fun w => plannerC a1 a2 (l3.map grOf) A3 l3.length c3 w)
  have HQ := Aside0.mk (fun wB hr p bm bc hpB hbB w5 hb5 S5 => leastW a1 a2 u0 u1 m0 m1 l3 HL.out HG.out A3 c3 p bm bc wB hr hpB hbB l3.length 0 (by omega) a0 s0 s1 0 HCN.out w5 hb5 S5)
  simp only [List.drop_zero, hL0] at HQ
  have HL0 := Aside0.mk hL0
  clear hg hall hl hL0
  by_cases hn : 1000 ≤ L0
  · rw [if_pos hn] at h2
    obtain ⟨rfl, rfl⟩ : [] = r1 ∧ 6 = r2 := by simpa using h2
    have q1 : decide (1000 ≤ L0) = true := decide_eq_true hn
    clear h2 hn
    go_enter Try.func11, Try.ntmps11
    go_wp2_with (first | (go_at_call 21; refine (HC.out w (Kd.C_alloc HR3.out _) (tripleC (blkN rfl))).mono ?_; rintro e w1 ⟨rfl, hb⟩; have HB1 := Aside0.mk (belW (belA (Below.refl w.heap.size w)) hb)) | (go_at_call 23; refine (HP.out _).mono ?_; rintro e w5 ⟨rfl, S5, hb5⟩) | (go_at_call 24; refine (HQ.out w1 (Kd.C_below HR3.out HB1.out) _ _ _ (by omega) (Nat.le_refl _) w5 hb5 S5).mono ?_; rintro e w6 ⟨rfl, S6, g6⟩))
    go_ret2
    have hB5 := belW HB1.out hb5
    have hB6 : Below w.heap.size w w6 := Below.grown hB5 g6 hB5.size (fun k e => by cases e; exact HB1.out.size)
    exact ⟨_, rfl, Kd.R_nil _ _ _ _ _, by repeat (first | exact hB6 | apply belA)⟩
  · rw [if_neg hn] at h2
    obtain ⟨hF, rfl⟩ : fewC a1 a2 (l3.map grOf) 0 a0 L0 [] = r1 ∧ 0 = r2 := by simpa using h2
    have q1 : decide (1000 ≤ L0) = false := decide_eq_false hn
    have HF := Aside0.mk hF
    clear h2 hn hF
    go_enter Try.func11, Try.ntmps11
    go_wp2_with (first | (go_at_call 21; refine (HC.out w (Kd.C_alloc HR3.out _) (tripleC (blkN rfl))).mono ?_; rintro e w1 ⟨rfl, hb⟩; have HB1 := Aside0.mk (belW (belA (Below.refl w.heap.size w)) hb)) | (go_at_call 23; refine (HP.out _).mono ?_; rintro e w5 ⟨rfl, S5, hb5⟩) | (go_at_call 24; refine (HQ.out w1 (Kd.C_below HR3.out HB1.out) _ _ _ (by omega) (Nat.le_refl _) w5 hb5 S5).mono ?_; rintro e w6 ⟨rfl, S6, g6⟩; have hB5 := belW HB1.out hb5; have hB6 : Below w.heap.size w w6 := Below.grown hB5 g6 hB5.size (fun k e => by cases e; exact HB1.out.size)) | ((with_reducible refine gate_dst (N := 35) rfl ?_); refine Kd.R_lit (Kd.int .i64) (w0 := w) w.heap.size 2 ?hg (N := 35) ?hd (xs := ([] : List Int)) (inner := []) (ok := fun k => k ≠ w1.heap.size + 1 + 1 ∧ k ≠ w1.heap.size) (okp := fun _ => False) ?hr (Reps.none _ _) (fun _ hk => hk.elim) ?hf hB6 hB6.size (by simp) ?_; (case hd => rfl); (case hg => rfl); (case hr => first | (go_simp; done) | (go_simp; rfl)); (case hf => exact ⟨Nat.ne_of_gt (blkLt S6.cells), Nat.ne_of_gt S6.lt⟩); intro v7 w7 hr7 hb7 g7 hat7))
    have S7 := S6.grown g7 (by simp) (by simp)
    have HB7 := Aside0.mk hb7
    have HO7 := Aside0.mk hr7
    have HS7 := Aside0.mk S7
    clear S5 hb5 S6 g6 hB5 hB6 hr7 hb7 g7 hat7 S7 hb HQ
    go_loopw [12, 13, 14, 40] (fun v12 v13 v14 v40 wr => ∃ (i : Nat) (h left : Int) (acc : List Int) (N : Nat), v12 = .int .i64 left ∧ v13 = .int .i64 h ∧ v40 = .int .i64 i ∧ Aside0 (i ≤ l3.length) ∧ Aside0 (0 ≤ h ∧ h ≤ 200 + 24 * i) ∧ Aside0 (0 ≤ left ∧ left ≤ 1000) ∧ Aside0 (fewC a1 a2 ((l3.map grOf).drop i) i h left acc = r1) ∧ Aside0 (acc.length ≤ i) ∧ Aside0 (N ≤ (i + 1) * 1073741824) ∧ Aside0 (PS a1 a2 (l3.map grOf) A3 l3.length c3 (w1.heap.size + 1 + 1) w1.heap.size (w1.heap.size + 1) N wr) ∧ Aside0 (Kd.R (Kd.int .i64) 2 wr w.heap.size (fun k => k ≠ w1.heap.size + 1 + 1 ∧ k ≠ w1.heap.size) v14 acc) ∧ Aside0 (Below w.heap.size w wr)) (fun _ _ _ v40 _ => (l3.length - intOf v40).toNat)
    case atStart => exact ⟨0, a0, L0, [], 0 + cntL l3.length, rfl, rfl, rfl, ⟨by omega⟩, ⟨by omega, by omega⟩, ⟨by omega, by omega⟩, ⟨by rw [List.drop_zero]; exact HF.out⟩, ⟨by simp⟩, ⟨by have := cnt30 _ HL.out; omega⟩, HS7, HO7, HB7⟩
    case round =>
      obtain ⟨i, h, left, acc, N, rfl, rfl, rfl, HI, HH, HLf, HE, HA, HN, HS, HO, HB⟩ := hrel
      clear HS7 HO7 HB7 HP HL0 HCN
      have hi := HI.out
      have hh := HH.out
      have hlf := HLf.out
      have hN := HN.out
      have hl30 := HL.out
      by_cases hlt : i < l3.length
      · have he := HE.out
        rw [drop_gr l3 i hlt, fewC] at he
        have hdi : decide ((i : Int) < (l3.length : Int)) = true := decide_eq_true (by omega)
        obtain ⟨ad, eA, hx0, hx1⟩ := at_T43 HR3.out (i : Int) (by omega) (by omega)
        cases eA
        rw [Int.toNat_natCast] at hx0 hx1
        replace hx0 := (HB.out.cell (World.block_lt_of_cell? w _ hx0)).trans hx0
        replace hx1 := (HB.out.cell (World.block_lt_of_cell? w _ hx1)).trans hx1
        have hu := Try.underlying43
        have hgb := HG.out _ (rd_mem l3 i hlt)
        obtain ⟨g, hgd⟩ : ∃ g, g = grOf (rd_T43 l3 i) := ⟨_, rfl⟩
        have hgr : impl_Weather_grows.f (rd_T43 l3 i).f0 (rd_T43 l3 i).f1 = some g := by rw [hgd]; exact grOf_is _
        rw [← hgd] at hgb he
        have HGR := Aside0.mk hgr
        have pd : (0 ≤ (i : Int)) = True := eq_true (by omega)
        have qd : ((i : Int) < (l3.length : Int)) = True := eq_true (by omega)
        obtain ⟨m, hm⟩ : ∃ m, (if a1 < h then a1 else h) = m := ⟨_, rfl⟩
        have hmb : 0 ≤ m ∧ m ≤ 200 ∧ min h a1 = m := by rw [← hm]; split <;> omega
        rw [hmb.2.2] at he
        have x1 : IntKind.i64.wrap (h + g) = h + g := IntWalk.i64_in _ (by omega)
        have x2 : IntKind.i64.wrap ((i : Int) + 1) = (i : Int) + 1 := IntWalk.i64_in _ (by omega)
        have x3 : IntKind.i64.wrap (m + g) = m + g := IntWalk.i64_in _ (by omega)
        have x4 : IntKind.i64.wrap (left - 1) = left - 1 := IntWalk.i64_in _ (by omega)
        obtain ⟨L, hL⟩ : ∃ L, leastP a1 a2 ((l3.map grOf).drop (i + 1)) (m + g) = L := ⟨_, rfl⟩
        have ed : ((i + 1 : Nat) : Int) = (i : Int) + 1 := by omega
        have hcl := cnt30 (l3.length - (i + 1)) (by omega)
        rw [hL] at he
        clear hgr hgd
        by_cases hp : 0 < left
        · have hpd : decide (0 < left) = true := decide_eq_true hp
          by_cases hb : m + g ≤ a2
          · have hbd : decide (m + g ≤ a2) = true := decide_eq_true hb
            have HQ2 := Aside0.mk (fun wA BA SA => leastW a1 a2 u0 u1 m0 m1 l3 HL.out HG.out (some ad) c3 (w1.heap.size + 1 + 1) w1.heap.size (w1.heap.size + 1) w HR3.out (by have := HB1.out.size; omega) HB1.out.size (l3.length - (i + 1)) (i + 1) (by omega) (m + g) (by omega) (by omega) N (by omega) wA BA SA)
            rw [hL, ed] at HQ2
            by_cases hc : L = left - 1
            · have hcd : (L == left - 1) = true := by simpa using hc
              rw [if_pos ⟨hp, hb, hc⟩] at he
              have HE2 : Aside0 (fewC a1 a2 ((l3.map grOf).drop (i + 1)) ((i + 1 : Nat) : Int) (m + g) (left - 1) (acc ++ [(i : Int)]) = r1) := ⟨by rw [ed]; exact he⟩
              have HPp := Aside0.mk hp
              clear he hL ed hc hp hb HE
              go_wp2_with (first | (go_at_call 27; refine (impl_Weather_grows.calls _ _ g _ HGR.out).mono ?_; rintro e wA ⟨rfl, hbA⟩; have SA := HS.out.below hbA; have BA := belW HB.out hbA; have OA := Kd.R_below HO.out hbA) | (go_at_call 24; refine (HQ2.out wA BA SA).mono ?_; rintro e wD ⟨rfl, SD, gD⟩; have BD : Below w.heap.size w wD := Below.grown BA gD BA.size (fun k e => by cases e; exact HB1.out.size); have OD := Kd.R_grown OA gD (fun k hk => by intro e; exact hk.2 (by injection e))) | ((with_reducible refine gate_builtin (b := .append) (xs := #[.tmp 70, .tmp 72]) rfl ?_); at_builtin; refine Kd.R_append (Kd.int .i64) (w0 := w) w.heap.size rfl (.tmp 70) (.tmp 72) 30 2 (.int .i64 0) 8 rfl Try.underlying30 info2 rfl (by decide) (by omega) u14 acc (i : Int) [.int .i64 (i : Int)] (fun k => k ≠ w1.heap.size + 1 + 1 ∧ k ≠ w1.heap.size) (fun _ => False) rfl rfl ?aP (fun _ hk => hk.elim) ?aF ?aO ?aB ?aS ?aL ?_; (case aP => exact rfl); (case aB => exact BD); (case aF => exact (fun k hk => ⟨by have := blkLt SD.cells; omega, by have := SD.lt; omega⟩)); (case aO => exact OD); (case aS => exact BD.size); (case aL => have := HA.out; omega); intro vE wE hoE hbE hgE hatE))
              have SE := SD.grown hgE (fun e => (OD.1 _ e.symm).1 rfl) (fun e => (OD.1 _ e.symm).2 rfl)
              have hpp := HPp.out
              refine ⟨?_, by first | (simp [intOf]; done) | (simp [intOf]; omega)⟩
              exact ⟨i + 1, m + g, left - 1, acc ++ [(i : Int)], N + cntL (l3.length - (i + 1)), by first | rfl | go_num, by first | rfl | go_num, by first | rfl | go_num | (congr 1; omega), ⟨by omega⟩, ⟨by omega, by omega⟩, ⟨by omega, by omega⟩, ⟨HE2.out⟩, ⟨by have := HA.out; first | omega | (simp; omega)⟩, ⟨by omega⟩, ⟨SE⟩, ⟨hoE⟩, ⟨hbE⟩⟩
            · have hcd : (L == left - 1) = false := by simpa using hc
              rw [if_neg (fun q => hc q.2.2)] at he
              have HE2 : Aside0 (fewC a1 a2 ((l3.map grOf).drop (i + 1)) ((i + 1 : Nat) : Int) (h + g) left acc = r1) := ⟨by rw [ed]; exact he⟩
              clear he hL ed hc hp hb HE
              go_wp2_with (first | (go_at_call 27; refine (impl_Weather_grows.calls _ _ g _ HGR.out).mono ?_; rintro e wA ⟨rfl, hbA⟩; have SA := HS.out.below hbA; have BA := belW HB.out hbA; have OA := Kd.R_below HO.out hbA) | (go_at_call 24; refine (HQ2.out wA BA SA).mono ?_; rintro e wD ⟨rfl, SD, gD⟩; have BD : Below w.heap.size w wD := Below.grown BA gD BA.size (fun k e => by cases e; exact HB1.out.size); have OD := Kd.R_grown OA gD (fun k hk => by intro e; exact hk.2 (by injection e))))
              refine ⟨?_, by first | (simp [intOf]; done) | (simp [intOf]; omega)⟩
              exact ⟨i + 1, h + g, left, acc, N + cntL (l3.length - (i + 1)), by first | rfl | go_num, by first | rfl | go_num, by first | rfl | go_num | (congr 1; omega), ⟨by omega⟩, ⟨by omega, by omega⟩, ⟨by omega, by omega⟩, ⟨HE2.out⟩, ⟨by have := HA.out; first | omega | (simp; omega)⟩, ⟨by omega⟩, ⟨SD⟩, ⟨OD⟩, ⟨BD⟩⟩
          · have hbd : decide (m + g ≤ a2) = false := decide_eq_false hb
            rw [if_neg (fun q => hb q.2.1)] at he
            have HE2 : Aside0 (fewC a1 a2 ((l3.map grOf).drop (i + 1)) ((i + 1 : Nat) : Int) (h + g) left acc = r1) := ⟨by rw [ed]; exact he⟩
            clear he hL ed hp hb HE
            go_wp2_with (first | (go_at_call 27; refine (impl_Weather_grows.calls _ _ g _ HGR.out).mono ?_; rintro e wA ⟨rfl, hbA⟩; have SA := HS.out.below hbA; have BA := belW HB.out hbA; have OA := Kd.R_below HO.out hbA))
            refine ⟨?_, by first | (simp [intOf]; done) | (simp [intOf]; omega)⟩
            exact ⟨i + 1, h + g, left, acc, N, by first | rfl | go_num, by first | rfl | go_num, by first | rfl | go_num | (congr 1; omega), ⟨by omega⟩, ⟨by omega, by omega⟩, ⟨by omega, by omega⟩, ⟨HE2.out⟩, ⟨by have := HA.out; first | omega | (simp; omega)⟩, ⟨Nat.le_trans hN (Nat.mul_le_mul_right _ (by omega))⟩, ⟨SA⟩, ⟨OA⟩, ⟨BA⟩⟩
        · have hpd : decide (0 < left) = false := decide_eq_false hp
          rw [if_neg (fun q => hp q.1)] at he
          have HE2 : Aside0 (fewC a1 a2 ((l3.map grOf).drop (i + 1)) ((i + 1 : Nat) : Int) (h + g) left acc = r1) := ⟨by rw [ed]; exact he⟩
          clear he hL ed hp HE
          go_wp2_with (first | (go_at_call 27; refine (impl_Weather_grows.calls _ _ g _ HGR.out).mono ?_; rintro e wA ⟨rfl, hbA⟩; have SA := HS.out.below hbA; have BA := belW HB.out hbA; have OA := Kd.R_below HO.out hbA))
          refine ⟨?_, by first | (simp [intOf]; done) | (simp [intOf]; omega)⟩
          exact ⟨i + 1, h + g, left, acc, N, by first | rfl | go_num, by first | rfl | go_num, by first | rfl | go_num | (congr 1; omega), ⟨by omega⟩, ⟨by omega, by omega⟩, ⟨by omega, by omega⟩, ⟨HE2.out⟩, ⟨by have := HA.out; first | omega | (simp; omega)⟩, ⟨Nat.le_trans hN (Nat.mul_le_mul_right _ (by omega))⟩, ⟨SA⟩, ⟨OA⟩, ⟨BA⟩⟩
      · have hdi : decide ((i : Int) < (l3.length : Int)) = false := decide_eq_false (by omega)
        have he := HE.out
        rw [List.drop_eq_nil_of_le (by simp; omega)] at he
        obtain rfl : acc = r1 := he
        clear HE
        go_wp2
        go_ret2
        exact ⟨_, rfl, Kd.R_mono HO.out (fun _ _ => trivial), HB.out⟩
end

end Go.Proofs.Ytkebohpfneiimaa.QF
