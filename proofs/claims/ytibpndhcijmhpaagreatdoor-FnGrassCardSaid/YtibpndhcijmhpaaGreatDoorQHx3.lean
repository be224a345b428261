/- Walks: printed by a program of this session; nothing here is trusted. -/
import Derived.Test.YtibpndhcijmhpaaGreatDoorQHx0
import Derived.Test.YtibpndhcijmhpaaGreatDoorQHx2
namespace Go.Proofs.YtibpndhcijmhpaaGreatDoor.QG
open Go.RowKit Go.Proofs.YtibpndhcijmhpaaGreatDoorW.PrintWords Go.Proofs.YtibpndhcijmhpaaGreatDoorW.PrintLast Go.Proofs.YtibpndhcijmhpaaGreatDoorW.PrintMore
attribute [local go_sem] max2_int min2_int max_two min_two max_three min_three max_four min_four   -- for this text's walks alone
set_option linter.unusedVariables false
set_option linter.unusedSimpArgs false

/-! ### a call of slices.ContainsFunc with the closure of SeedDays, by hand -/
def poor_ (a b : Int) (x : S43) : Bool := decide (wrap64 x.f0 < a) || decide (wrap64 x.f1 < b)
theorem both4_ (b : Bool) : b = false ∨ b = true := by cases b <;> simp
set_option maxHeartbeats 8000000 in
set_option maxRecDepth 100000 in
theorem poor_calls (x : S43) (a b : Int) (r : Bool) (hr : poor_ a b x = r) (g h : Nat) (w : World) (hg : w.cell? ⟨g, 0, none⟩ = some (.int .i64 a)) (hh : w.cell? ⟨h, 0, none⟩ = some (.int .i64 b)) :
  Calls Tryz.prog 62 #[.agg #[.int .i8 x.f0, .int .i8 x.f1], .pointer (some ⟨g, 0, none⟩), .pointer (some ⟨h, 0, none⟩)] w fun e w' => e = .returned (.bool r) ∧ Below w.heap.size w w' := by
 have hu := Tryz.underlying43
 subst hr
 unfold poor_
 have hg1 : ∀ o, (w.alloc o).cell? ⟨g, 0, none⟩ = some (.int .i64 a) := fun o => ((below_alloc (Below.refl w.heap.size w) (o := o)).cell (World.block_lt_of_cell? w _ hg)).trans hg
 have hh1 : ∀ o, (w.alloc o).cell? ⟨h, 0, none⟩ = some (.int .i64 b) := fun o => ((below_alloc (Below.refl w.heap.size w) (o := o)).cell (World.block_lt_of_cell? w _ hh)).trans hh
 obtain ⟨p, hp⟩ : ∃ p, p = x.f0 := ⟨_, rfl⟩
 obtain ⟨q, hq⟩ : ∃ q, q = x.f1 := ⟨_, rfl⟩
 rw [← hp, ← hq]
 clear hp hq
 rcases both4_ (decide (wrap64 p < a)) with b1 | b1
 ·
  rw [b1]
  go_enter Tryz.func62, Tryz.ntmps62
  go_wp2
  go_ret
  exact ⟨by simp, by repeat (first | exact Below.refl _ _ | apply below_alloc | apply pw_below_drewN | apply below_drew1)⟩
 ·
  rw [b1]
  go_enter Tryz.func62, Tryz.ntmps62
  go_wp2
  go_ret
  exact ⟨by simp, by repeat (first | exact Below.refl _ _ | apply below_alloc | apply pw_below_drewN | apply below_drew1)⟩
/-- Is any of them too dry or too cold? No answer where there are more than can be. -/
def seed_any.f (l0 : List (S43)) (a1 : Int) (a2 : Int) : Option (Bool) := if (l0.length : Int) < 9223372036854775807 then some (l0.any (poor_ a1 a2)) else none
set_option maxHeartbeats 8000000 in
set_option maxRecDepth 100000 in
theorem seed_index (A0 : Option Addr) (c0 : Nat) (l0 : List (S43)) (a1 a2 : Int) (g h : Nat) (hl : (l0.length : Int) < 9223372036854775807) (w : World) (hr0 : Kd.C k43 w A0 l0.length l0) (hg : w.cell? ⟨g, 0, none⟩ = some (.int .i64 a1)) (hh : w.cell? ⟨h, 0, none⟩ = some (.int .i64 a2)) :
  Calls Tryz.prog 78 #[.slice A0 l0.length c0, .func (.func 62) #[] #[.pointer (some ⟨g, 0, none⟩), .pointer (some ⟨h, 0, none⟩)]] w fun e w' => (∃ r : Int, e = .returned (.int .i64 r) ∧ ((r = -1 ∧ l0.any (poor_ a1 a2) = false) ∨ (0 ≤ r ∧ l0.any (poor_ a1 a2) = true))) ∧ Below w.heap.size w w' := by
 have hu := Tryz.underlying43
 have HR0 := Aside0.mk hr0
 have HL := Aside0.mk hl
 have HG := Aside0.mk hg
 have HH := Aside0.mk hh
 clear hr0 hl hg hh
 go_enter Tryz.func78, Tryz.ntmps78
 go_wp2
 go_loopw [8] (fun v wr => ∃ i : Int, v = .int .i64 i ∧ Aside0 (0 ≤ i ∧ i ≤ l0.length) ∧ Aside0 (∀ j : Nat, (j : Int) < i → poor_ a1 a2 (rd_T43 l0 j) = false) ∧ Aside0 (Below w.heap.size w wr)) (fun v _ => (l0.length - intOf v).toNat)
 case atStart => exact ⟨0, rfl, ⟨by omega, by omega⟩, ⟨fun j h1 => by omega⟩, ⟨Below.refl _ _⟩⟩
 case round =>
  obtain ⟨i, rfl, HI, HALL, HB⟩ := hrel
  by_cases c2 : i < (l0.length : Int)
  ·
   have p : 0 ≤ i := HI.out.1
   have c2b : decide (i < (l0.length : Int)) = true := decide_eq_true c2
   obtain ⟨ad, e, hx0, hx1⟩ := at_T43 HR0.out i p c2
   cases e
   replace hx0 := (HB.out.cell (World.block_lt_of_cell? w _ hx0)).trans hx0
   replace hx1 := (HB.out.cell (World.block_lt_of_cell? w _ hx1)).trans hx1
   have hg1 := (HB.out.cell (World.block_lt_of_cell? w _ HG.out)).trans HG.out
   have hh1 := (HB.out.cell (World.block_lt_of_cell? w _ HH.out)).trans HH.out
   have x1 : IntKind.i64.wrap (i + 1) = i + 1 := IntWalk.i64_in _ (by have := HL.out; omega)
   have q := eq_true c2
   replace p := eq_true p
   clear c2
   rcases both4_ (poor_ a1 a2 (rd_T43 l0 i)) with b | b
   ·
    have HD := Aside0.mk b
    clear b
    go_wp2_with (first | (go_at_call 62; refine (poor_calls (rd_T43 l0 i) a1 a2 false HD.out g h _ hg1 hh1).mono ?_; rintro e w1 ⟨rfl, hb⟩))
    have hi := HI.out
    have hq := of_eq_true q
    exact ⟨⟨i + 1, by go_num, ⟨by omega, by omega⟩, ⟨fun j h1 => (by by_cases e : (j : Int) = i; exact e ▸ HD.out; exact HALL.out j (by omega))⟩, ⟨below_step (by repeat (first | exact HB.out | apply below_alloc | apply pw_below_drewN | apply below_drew1)) hb⟩⟩, by simp [intOf]; omega⟩
   ·
    have HD := Aside0.mk b
    clear b
    go_wp2_with (first | (go_at_call 62; refine (poor_calls (rd_T43 l0 i) a1 a2 true HD.out g h _ hg1 hh1).mono ?_; rintro e w1 ⟨rfl, hb⟩))
    go_ret
    have hq := of_eq_true q
    have hp := of_eq_true p
    refine ⟨⟨i, rfl, Or.inr ⟨hp, ?_⟩⟩, below_step (by repeat (first | exact HB.out | apply below_alloc | apply pw_below_drewN | apply below_drew1)) hb⟩
    apply List.any_eq_true.2
    refine ⟨rd_T43 l0 i, ?_, HD.out⟩
    unfold rd_T43
    rw [List.getD_eq_getElem?_getD, List.getElem?_eq_getElem (by omega)]
    exact List.getElem_mem _
  ·
   have c2b : decide (i < (l0.length : Int)) = false := decide_eq_false c2
   have hi := HI.out
   go_wp2
   go_ret
   refine ⟨⟨-1, rfl, Or.inl ⟨rfl, ?_⟩⟩, HB.out⟩
   intro x hx
   obtain ⟨j, hj, rfl⟩ := List.getElem_of_mem hx
   have := HALL.out j (by omega)
   unfold rd_T43 at this
   rw [Int.toNat_natCast, List.getD_eq_getElem?_getD, List.getElem?_eq_getElem hj] at this
   exact this
set_option maxHeartbeats 8000000 in
set_option maxRecDepth 100000 in
theorem seed_any.calls (A0 : Option Addr) (c0 : Nat) (l0 : List (S43)) (a1 a2 : Int) (r : Bool) (g h : Nat) (w : World) (hr0 : Kd.C k43 w A0 l0.length l0) (hg : w.cell? ⟨g, 0, none⟩ = some (.int .i64 a1)) (hh : w.cell? ⟨h, 0, none⟩ = some (.int .i64 a2)) (hf : seed_any.f l0 a1 a2 = some r) :
  Calls Tryz.prog 52 #[.slice A0 l0.length c0, .func (.func 62) #[] #[.pointer (some ⟨g, 0, none⟩), .pointer (some ⟨h, 0, none⟩)]] w fun e w' => e = .returned (.bool r) ∧ Below w.heap.size w w' := by
 unfold seed_any.f at hf
 by_cases hl : (l0.length : Int) < 9223372036854775807
 ·
  rw [if_pos hl] at hf
  obtain rfl := Option.some.inj hf
  clear hf
  have HI := Aside0.mk (seed_index A0 c0 l0 a1 a2 g h hl w hr0 hg hh)
  clear hr0 hl hg hh
  go_enter Tryz.func52, Tryz.ntmps52
  go_wp2_with (first | (go_at_call 78; refine HI.out.mono ?_; rintro e w1 ⟨⟨r, rfl, hr⟩, hb⟩))
  go_ret
  rcases hr with ⟨rfl, h⟩ | ⟨h0, h⟩
  ·
   exact ⟨by rw [h]; rfl, hb⟩
  ·
   exact ⟨by rw [h]; simp [h0], hb⟩
 ·
  rw [if_neg hl] at hf
  cases hf

-- NOT PRINTED: function 52 (impl_Weather_52)

/-! ### impl_ValidWeather: function 18, by hand: it tells what the reference tells -/
def day_ (x : S43) : Bool := (decide (0 ≤ wrap64 x.f0) && decide (wrap64 x.f0 ≤ 50)) && (decide (0 ≤ wrap64 x.f1) && decide (wrap64 x.f1 ≤ 40))
theorem day_spec (x : S43) : spec_l03Day.f x.f0 x.f1 = some (day_ x) := by
 unfold spec_l03Day.f spec_l00In.f day_
 by_cases h1 : 0 ≤ wrap64 x.f0 <;> by_cases h2 : wrap64 x.f0 ≤ 50 <;> by_cases h3 : 0 ≤ wrap64 x.f1 <;> simp [h1, h2, h3]
theorem wrap_up {i : Int} (h0 : 0 ≤ i) (h1 : i < 9223372036854775808) : wrap64 (i + 1) = i + 1 ∨ (wrap64 (i + 1) < 0 ∧ i = 9223372036854775807) := by
 unfold wrap64
 omega
theorem ok_tells (xs : List (S43)) : ∀ (k : Nat) (i : Int) (r : Bool), 0 ≤ i → i < 9223372036854775808 → spec_l03Ok.l0 k xs i = some r →
  (r = false ∧ ∃ j : Int, i ≤ j ∧ j < xs.length ∧ day_ (rd_T43 xs j) = false) ∨ (r = decide ((xs.length : Int) ≤ 30) ∧ ∀ j : Int, i ≤ j → j < xs.length → day_ (rd_T43 xs j) = true) := by
 intro k
 induction k with
 | zero => intro i r _ _ h; simp [spec_l03Ok.l0] at h
 | succ k ih =>
  intro i r h0 h1 h
  simp only [spec_l03Ok.l0] at h
  by_cases hlt : i < (xs.length : Int)
  ·
   rw [if_pos hlt, if_pos h0, day_spec] at h
   simp only [Option.bind_some] at h
   cases hd : day_ (rd_T43 xs i) with
   | false =>
    rw [hd, if_neg (by decide)] at h
    exact Or.inl ⟨(Option.some.inj h).symm, i, Int.le_refl _, hlt, hd⟩
   | true =>
    rw [hd, if_pos rfl] at h
    rcases wrap_up h0 h1 with hw | ⟨hw, _⟩
    ·
     rw [hw] at h
     by_cases hb : i + 1 < 9223372036854775808
     ·
      rcases ih (i + 1) r (by omega) hb h with ⟨hr, j, hj, hj2, hj3⟩ | ⟨hr, hj⟩
      ·
       exact Or.inl ⟨hr, j, by omega, hj2, hj3⟩
      ·
       refine Or.inr ⟨hr, fun j hj1 hj2 => ?_⟩
       by_cases e : j = i
       ·
        rw [e]; exact hd
       ·
        exact hj j (by omega) hj2
     ·
      unfold wrap64 at hw; omega
    ·
     exfalso
     cases k with
     | zero => simp [spec_l03Ok.l0] at h
     | succ k =>
      simp only [spec_l03Ok.l0] at h
      rw [if_pos (by omega), if_neg (by omega)] at h
      simp at h
  ·
   rw [if_neg hlt] at h
   exact Or.inr ⟨(Option.some.inj h).symm, fun j hj1 hj2 => by omega⟩
def impl_ValidWeather.f (k : Nat) (l0 : List (S43)) : Option (Bool) := spec_l03Ok.f k l0
theorem both_ (b : Bool) : b = false ∨ b = true := by cases b <;> simp
set_option maxHeartbeats 8000000 in
set_option maxRecDepth 100000 in
theorem day_calls (x : S43) (b : Bool) (hb : day_ x = b) (w : World) :
  Calls Tryz.prog 53 #[.agg #[.int .i8 x.f0, .int .i8 x.f1]] w fun e w' => e = .returned (.bool (!b)) ∧ Below w.heap.size w w' := by
 have hu := Tryz.underlying43
 subst hb
 unfold day_
 obtain ⟨a, ha⟩ : ∃ a, a = x.f0 := ⟨_, rfl⟩
 obtain ⟨c, hc⟩ : ∃ c, c = x.f1 := ⟨_, rfl⟩
 rw [← ha, ← hc]
 clear ha hc
 rcases both_ (decide (0 ≤ wrap64 a)) with b1 | b1
 ·
  rw [b1]
  go_enter Tryz.func53, Tryz.ntmps53
  go_wp2
  go_ret
  exact ⟨by simp, by repeat (first | exact Below.refl _ _ | apply below_alloc | apply pw_below_drewN | apply below_drew1)⟩
 rcases both_ (decide (wrap64 a ≤ 50)) with b2 | b2
 ·
  rw [b1, b2]
  go_enter Tryz.func53, Tryz.ntmps53
  go_wp2
  go_ret
  exact ⟨by simp, by repeat (first | exact Below.refl _ _ | apply below_alloc | apply pw_below_drewN | apply below_drew1)⟩
 rcases both_ (decide (0 ≤ wrap64 c)) with b3 | b3
 ·
  rw [b1, b2, b3]
  go_enter Tryz.func53, Tryz.ntmps53
  go_wp2
  go_ret
  exact ⟨by simp, by repeat (first | exact Below.refl _ _ | apply below_alloc | apply pw_below_drewN | apply below_drew1)⟩
 rcases both_ (decide (wrap64 c ≤ 40)) with b4 | b4
 ·
  rw [b1, b2, b3, b4]
  go_enter Tryz.func53, Tryz.ntmps53
  go_wp2
  go_ret
  exact ⟨by simp, by repeat (first | exact Below.refl _ _ | apply below_alloc | apply pw_below_drewN | apply below_drew1)⟩
 ·
  rw [b1, b2, b3, b4]
  go_enter Tryz.func53, Tryz.ntmps53
  go_wp2
  go_ret
  exact ⟨by simp, by repeat (first | exact Below.refl _ _ | apply below_alloc | apply pw_below_drewN | apply below_drew1)⟩
set_option maxHeartbeats 8000000 in
set_option maxRecDepth 100000 in
theorem day_index (A0 : Option Addr) (c0 : Nat) (l0 : List (S43)) (hl : (l0.length : Int) ≤ 30) (w : World) (hr0 : Kd.C k43 w A0 l0.length l0) :
  Calls Tryz.prog 78 #[.slice A0 l0.length c0, .func (.func 53) #[] #[]] w fun e w' => (∃ r : Int, e = .returned (.int .i64 r) ∧ ((r = -1 ∧ ∀ j : Int, 0 ≤ j → j < l0.length → day_ (rd_T43 l0 j) = true) ∨ (0 ≤ r ∧ ∃ j : Int, 0 ≤ j ∧ j < l0.length ∧ day_ (rd_T43 l0 j) = false))) ∧ Below w.heap.size w w' := by
 have hu := Tryz.underlying43
 have HR0 := Aside0.mk hr0
 have HL := Aside0.mk hl
 clear hr0 hl
 go_enter Tryz.func78, Tryz.ntmps78
 go_wp2
 go_loopw [8] (fun v wr => ∃ i : Int, v = .int .i64 i ∧ Aside0 (0 ≤ i ∧ i ≤ l0.length) ∧ Aside0 (∀ j : Int, 0 ≤ j → j < i → day_ (rd_T43 l0 j) = true) ∧ Aside0 (Below w.heap.size w wr)) (fun v _ => (l0.length - intOf v).toNat)
 case atStart => exact ⟨0, rfl, ⟨by omega, by omega⟩, ⟨fun j h0 h1 => by omega⟩, ⟨Below.refl _ _⟩⟩
 case round =>
  obtain ⟨i, rfl, HI, HALL, HB⟩ := hrel
  by_cases c2 : i < (l0.length : Int)
  ·
   have p : 0 ≤ i := HI.out.1
   have c2b : decide (i < (l0.length : Int)) = true := decide_eq_true c2
   obtain ⟨ad, e, hx0, hx1⟩ := at_T43 HR0.out i p c2
   cases e
   replace hx0 := (HB.out.cell (World.block_lt_of_cell? w _ hx0)).trans hx0
   replace hx1 := (HB.out.cell (World.block_lt_of_cell? w _ hx1)).trans hx1
   have x1 : IntKind.i64.wrap (i + 1) = i + 1 := IntWalk.i64_in _ (by have := HL.out; omega)
   have q := eq_true c2
   replace p := eq_true p
   clear c2
   rcases both_ (day_ (rd_T43 l0 i)) with b | b
   ·
    have HD := Aside0.mk b
    clear b
    go_wp2_with (first | (go_at_call 53; refine (day_calls (rd_T43 l0 i) false HD.out _).mono ?_; rintro e w1 ⟨rfl, hb⟩))
    go_ret
    exact ⟨⟨i, rfl, Or.inr ⟨of_eq_true p, i, of_eq_true p, of_eq_true q, HD.out⟩⟩, below_step (by repeat (first | exact HB.out | apply below_alloc | apply pw_below_drewN | apply below_drew1)) hb⟩
   ·
    have HD := Aside0.mk b
    clear b
    go_wp2_with (first | (go_at_call 53; refine (day_calls (rd_T43 l0 i) true HD.out _).mono ?_; rintro e w1 ⟨rfl, hb⟩))
    have hi := HI.out
    have hq := of_eq_true q
    exact ⟨⟨i + 1, by go_num, ⟨by omega, by omega⟩, ⟨fun j h0 h1 => (by by_cases e : j = i; exact e ▸ HD.out; exact HALL.out j h0 (by omega))⟩, ⟨below_step (by repeat (first | exact HB.out | apply below_alloc | apply pw_below_drewN | apply below_drew1)) hb⟩⟩, by simp [intOf]; omega⟩
  ·
   have c2b : decide (i < (l0.length : Int)) = false := decide_eq_false c2
   have hi := HI.out
   go_wp2
   go_ret
   exact ⟨⟨-1, rfl, Or.inl ⟨rfl, fun j h0 h1 => HALL.out j h0 (by omega)⟩⟩, HB.out⟩
set_option maxHeartbeats 8000000 in
set_option maxRecDepth 100000 in
theorem day_contains (A0 : Option Addr) (c0 : Nat) (l0 : List (S43)) (hl : (l0.length : Int) ≤ 30) (w : World) (hr0 : Kd.C k43 w A0 l0.length l0) :
  Calls Tryz.prog 52 #[.slice A0 l0.length c0, .func (.func 53) #[] #[]] w fun e w' => (∃ r : Bool, e = .returned (.bool r) ∧ ((r = false ∧ ∀ j : Int, 0 ≤ j → j < l0.length → day_ (rd_T43 l0 j) = true) ∨ (r = true ∧ ∃ j : Int, 0 ≤ j ∧ j < l0.length ∧ day_ (rd_T43 l0 j) = false))) ∧ Below w.heap.size w w' := by
 have HI := Aside0.mk (day_index A0 c0 l0 hl w hr0)
 clear hr0 hl
 go_enter Tryz.func52, Tryz.ntmps52
 go_wp2_with (first | (go_at_call 78; refine HI.out.mono ?_; rintro e w1 ⟨⟨r, rfl, hr⟩, hb⟩))
 go_ret
 rcases hr with ⟨rfl, h⟩ | ⟨h0, h⟩
 ·
  exact ⟨⟨false, rfl, Or.inl ⟨rfl, h⟩⟩, hb⟩
 ·
  exact ⟨⟨true, by simp [h0], Or.inr ⟨rfl, h⟩⟩, hb⟩
set_option maxHeartbeats 8000000 in
set_option maxRecDepth 100000 in
theorem impl_ValidWeather.calls (k : Nat) (A0 : Option Addr) (c0 : Nat) (l0 : List (S43)) (r : Bool) (w : World) (hr0 : Kd.C k43 w A0 l0.length l0) (hc0 : l0.length ≤ c0) (h : impl_ValidWeather.f k l0 = some r) :
  Calls Tryz.prog 18 #[.slice A0 l0.length c0] w fun e w' => e = .returned (.bool r) ∧ Below w.heap.size w w' := by
 have ht := Aside0.mk (ok_tells l0 k 0 r (by omega) (by omega) h)
 clear h
 by_cases c2 : (l0.length : Int) ≤ 30
 ·
  have c2b : decide ((l0.length : Int) ≤ 30) = true := decide_eq_true c2
  have HI := Aside0.mk (day_contains A0 c0 l0 c2 w hr0)
  clear hr0 c2
  go_enter Tryz.func18, Tryz.ntmps18
  go_wp2_with (first | (go_at_call 52; refine HI.out.mono ?_; rintro e w1 ⟨⟨q, rfl, hq⟩, hb⟩))
  go_ret
  refine ⟨?_, hb⟩
  rcases ht.out with ⟨rfl, j, j0, j1, j2⟩ | ⟨hr, hj⟩
  ·
   rcases hq with ⟨rfl, h⟩ | ⟨rfl, h⟩
   ·
    rw [h j j0 j1] at j2; cases j2
   ·
    rfl
  ·
   rw [c2b] at hr
   subst hr
   rcases hq with ⟨rfl, h⟩ | ⟨rfl, j, j0, j1, j2⟩
   ·
    rfl
   ·
    rw [hj j j0 j1] at j2; cases j2
 ·
  have c2b : decide ((l0.length : Int) ≤ 30) = false := decide_eq_false c2
  clear c2
  go_enter Tryz.func18, Tryz.ntmps18
  go_wp2
  go_ret
  refine ⟨?_, Below.refl _ _⟩
  rcases ht.out with ⟨rfl, _⟩ | ⟨hr, _⟩
  ·
   rfl
  ·
   rw [c2b] at hr; subst hr; rfl

/-! ### impl.dec, by hand: numbers below 100 -/
def impl_dec.f (a0 : Int) : Option (ByteArray) := if 0 ≤ a0 ∧ a0 < 100 then some ⟨(Lib.decDigits a0.toNat).toArray⟩ else none
set_option maxHeartbeats 8000000 in
set_option maxRecDepth 100000 in
theorem impl_dec.calls (a0 : Int) (r : ByteArray) (w : World) (h : impl_dec.f a0 = some r) :
  Calls Tryz.prog 41 #[.int .i64 a0] w fun e w' => e = .returned (.string r) ∧ Drawn0 w w' := by
 unfold impl_dec.f at h
 by_cases hc : 0 ≤ a0 ∧ a0 < 100
 case neg => rw [if_neg hc] at h; cases h
 rw [if_pos hc] at h
 obtain rfl := Option.some.inj h
 have hs := Tryz.strconv_FormatInt_10_small a0.toNat (by omega) w
 have e : ((a0.toNat : Nat) : Int) = a0 := by omega
 rw [e] at hs
 have HS := Aside0.mk hs
 clear hs h hc e
 go_enter Tryz.func41, Tryz.ntmps41
 go_wp2_with (first | (go_at_call 68; refine HS.out.mono ?_; rintro e w1 ⟨rfl, rfl⟩))
 go_ret
 exact ⟨rfl, Drawn0.refl _⟩

-- NOT PRINTED: function 107 (abi_NoEscape)

-- NOT PRINTED: function 87 (strings_Builder_copyCheck)

-- NOT PRINTED: function 88 (strings_Builder_grow)

-- NOT PRINTED: function 69 (strings_Builder_Grow)

-- NOT PRINTED: function 70 (strings_Builder_WriteString)

-- NOT PRINTED: function 71 (strings_Builder_String)

/-! ### strings.Join, by the shelf's contract -/
def joinB (l0 : List ByteArray) (a1 : ByteArray) : ByteArray := ⟨(Lib.join (l0.map (·.data.toList)) a1.data.toList).toArray⟩
def strings_Join.f (l0 : List ByteArray) (a1 : ByteArray) : Option (ByteArray) := if l0.length ≤ 140737488355328 ∧ (joinB l0 a1).size ≤ 140737488355328 then some (joinB l0 a1) else none
theorem spot_none {w : World} {ad : Addr} {v : Value} (h : w.cell? ad = some v) : ad = ⟨ad.block, ad.off, none⟩ := by
 unfold World.cell? at h
 split at h
 ·
  split at h
  ·
   cases h
  ·
   cases ad with
   | mk b o s =>
    cases s with
    | none => rfl
    | some q => simp at *
 ·
  cases h
set_option maxHeartbeats 8000000 in
set_option maxRecDepth 100000 in
theorem strings_Join.calls (A0 : Option Addr) (c0 : Nat) (l0 : List ByteArray) (a1 : ByteArray) (r : ByteArray) (w : World) (hr0 : Kd.C Kd.string w A0 l0.length l0) (hc0 : l0.length ≤ c0) (h : strings_Join.f l0 a1 = some r) :
  Calls Tryz.prog 42 #[.slice A0 l0.length c0, .string a1] w fun e w' => e = .returned (.string r) ∧ Below w.heap.size w w' := by
 unfold strings_Join.f at h
 by_cases hc : l0.length ≤ 140737488355328 ∧ (joinB l0 a1).size ≤ 140737488355328
 case neg => rw [if_neg hc] at h; cases h
 rw [if_pos hc] at h
 obtain rfl := Option.some.inj h
 by_cases hn : l0 = []
 ·
  subst hn
  refine (Tryz.strings_Join_none A0 c0 a1 w).mono ?_
  rintro e w' ⟨rfl, rfl⟩
  exact ⟨rfl, Below.refl _ _⟩
 ·
  have hl : 0 < l0.length := List.length_pos_iff.mpr hn
  obtain ⟨ad, rfl, hcell⟩ := hr0.2.2 hl
  have hcell2 : ∀ (j : Nat) x, l0[j]? = some x → w.cell? (ad.add j) = some (.string x) := fun j x hx => by
   obtain ⟨c, _, hK, hu⟩ := hcell j x hx
   have hK2 : c = [.string x] := hK
   subst hK2
   have := hu 0 _ rfl
   simpa [Kd.string, Kd.scalar] using this
  have h0 := hcell2 0 _ (List.getElem?_eq_getElem hl)
  have h00 : w.cell? ad = some (.string (l0[0]'hl)) := by simpa [Addr.add] using h0
  have hsp : ad = ⟨ad.block, ad.off, none⟩ := spot_none h00
  have hadd : ∀ j, ad.add j = ⟨ad.block, ad.off + j, none⟩ := fun j => by
   unfold Addr.add
   split
   ·
    rename_i e; subst e; exact hsp
   ·
    rfl
  rw [hsp]
  refine (Tryz.strings_Join ad.block ad.off c0 l0 a1 w (fun j x hx => by rw [← hadd]; exact hcell2 j x hx) (World.block_lt_of_cell? w _ h00) hc.1 hc0 (by have := hc.2; simpa [joinB, ByteArray.size] using this)).mono ?_
  rintro e w' ⟨rfl, hb⟩
  exact ⟨rfl, hb⟩

/-! ### impl_WeatherText: function 9 -/
def impl_WeatherText.l0 : Nat → List ByteArray → List (S43) → Int → Int → Option (ByteArray)
 | 0, _, _, _, _ => none
 | k + 1, x3, x10, x11, x12 => if x12 < x11 then (if 0 ≤ x12 then (if x12 < (x10.length : Int) then ((impl_dec.f (wrap64 ((rd_T43 x10 x12).f0))).bind fun t176 => (if t176.size + 1 ≤ 9223372036854775807 then ((impl_dec.f (wrap64 ((rd_T43 x10 x12).f1))).bind fun t177 => (if (t176 ++ (⟨#[47]⟩ : ByteArray)).size + t177.size ≤ 9223372036854775807 then (if x3.length < 8796093022208 then (impl_WeatherText.l0 k (x3 ++ [(t176 ++ (⟨#[47]⟩ : ByteArray)) ++ t177]) x10 x11 (wrap64 (x12 + 1))) else (none)) else (none))) else (none))) else (none)) else (none)) else ((strings_Join.f x3 (⟨#[32]⟩ : ByteArray)).bind fun t181 => (some t181))
def impl_WeatherText.f (k : Nat) (l0 : List (S43)) : Option (ByteArray) := (impl_ValidWeather.f k l0).bind fun t170 => (if t170 = true then (impl_WeatherText.l0 k (([] : List ByteArray)) l0 (l0.length : Int) 0) else (some (⟨#[]⟩ : ByteArray)))
def impl_WeatherText.T7 : Bool × List (List Nat × List Nat) := (true, [([], []), ([], []), ([1], [1]), ([2], [2]), ([3], [3]), ([4], [4]), ([], []), ([6], [6]), ([7], [7]), ([8, 4], [8]), ([5, 9], [5, 9]), ([10], [10]), ([0, 11, 9], [0, 11]), ([12, 12, 0, 1, 2, 3, 4, 5, 6, 7, 8, 9, 10, 11, 12], [0, 12])])
def impl_WeatherText.B7 : List Nat := [0, 0, 2, 6, 14, 30, 0, 64, 192, 478, 1022, 2046, 4095, 8191]
theorem impl_WeatherText.tab7 : rtab .any (opsOf Tryz.f9 7) = impl_WeatherText.T7 := by kernel_rfl
theorem impl_WeatherText.bits7 : waitsOk impl_WeatherText.T7.2 impl_WeatherText.B7 = true := by kernel_rfl
set_option maxHeartbeats 8000000 in
set_option maxRecDepth 100000 in
theorem impl_WeatherText.calls (k : Nat) (A0 : Option Addr) (c0 : Nat) (l0 : List (S43)) (r : ByteArray) (w : World) (hr0 : Kd.C k43 w A0 l0.length l0) (hc0 : l0.length ≤ c0) (h : impl_WeatherText.f k l0 = some r) :
  Calls Tryz.prog 9 #[.slice A0 l0.length c0] w fun e w' => e = .returned (.string r) ∧ Below w.heap.size w w' := by
 have hu43 := Tryz.underlying43
 have HR0 := Aside0.mk hr0
 have HC0 := Aside0.mk hc0
 clear hr0 hc0
 have HB := Aside0.mk (Below.refl w.heap.size w)
 have H : ((impl_ValidWeather.f k l0).bind fun t170 => (if t170 = true then (impl_WeatherText.l0 k (([] : List ByteArray)) l0 (l0.length : Int) 0) else (some (⟨#[]⟩ : ByteArray)))) = some r := h
 clear h
 replace H := Option.bind_eq_some_iff.mp H
 obtain ⟨t170, A20, H⟩ := H
 replace H : (if t170 = true then (impl_WeatherText.l0 k (([] : List ByteArray)) l0 (l0.length : Int) 0) else (some (⟨#[]⟩ : ByteArray))) = some r := H
 have A2 := Aside0.mk A20
 clear A20
 by_cases c3 : t170 = true
 ·
  subst c3
  have H1 : (impl_WeatherText.l0 k (([] : List ByteArray)) l0 (l0.length : Int) 0) = some r := by rw [if_pos rfl] at H; exact H
  clear H
  have H := H1
  clear H1
  obtain ⟨y171, hy171⟩ : ∃ y_ : List ByteArray, y_ = (([] : List ByteArray)) := ⟨_, rfl⟩
  replace H : (impl_WeatherText.l0 k y171 l0 (l0.length : Int) 0) = some r := by first | (rw [hy171]; with_reducible exact H) | (have H2_ := (Option.bind_some _ _).symm.trans H; rw [hy171]; with_reducible exact H2_) | (have H2_ := (Option.bind_some _ _).symm.trans H; with_reducible exact H2_) | with_reducible exact H | (rw [hy171]; exact H) | exact H
  have Ny171 := Aside0.mk hy171
  clear hy171
  have H' := Aside0.mk H
  clear H
  go_enter Tryz.func9, Tryz.ntmps9
  go_wp2_with (first | ((with_reducible refine gate_callee (f := 18) rfl ?_); refine goesL_ (some 7) rfl rfl Tryz.func18 (by kernel_rfl) rfl #[.slice A0 l0.length c0] rfl aA ?_; (with_reducible refine (impl_ValidWeather.calls k _ _ l0 true _ ?side1 ?side2 A2.out).mono ?_); (case side1 => repeat (first | exact HR0.out | (with_reducible refine Kd.C_alloc ?_ _) | (with_reducible refine Kd.C_drewN ?_ _) | (with_reducible refine Kd.C_drew ?_))); (case side2 => exact HC0.out); rintro e w4 ⟨rfl, hb⟩; refine ⟨_, rfl, ?_⟩; have n0_ := Aside0.mk (below_step bB hb); clear HB; have HB := n0_; clear n0_; (try clear hb); (try clear hb2); (try clear hk); (try clear hi)) | ((with_reducible refine gate_dst (N := 9) rfl ?_); refine Kd.R_lit Kd.string _ 9 ?hg (N := 9) ?hd (xs := ([] : List ByteArray)) (inner := []) (ok := fun _ => True) (okp := fun _ => True) ?hr ?hp (fun _ hk => hk) trivial (Below.refl _ _) (Nat.le_refl _) (by simp) ?_; (case hd => rfl); (case hg => rfl); (case hr => first | (go_simp; done) | (go_simp; rfl)); (case hp => exact (Reps.none _ _)); intro v172 w5 ho6 hb hg_ hnew_; clear hg_ hnew_; (first | rw [← Ny171.out] at ho6 | (simp only [Int.reduceToNat] at ho6; rw [← Ny171.out] at ho6)); have n0_ := Aside0.mk (Kd.R_lower ho6 (below_size bB)); have n1_ := Aside0.mk (below_step bB hb); clear HB; have HO173 := n0_; have HB := n1_; clear n0_ n1_; clear hb ho6))
  go_loopg [3, 12] k (fun kq v3 v12 w' => ∃ (x3_1 : List ByteArray) (x12_1 : Int), v12 = .int .i64 x12_1 ∧ Aside0 (impl_WeatherText.l0 kq x3_1 l0 (l0.length : Int) x12_1 = some r) ∧ Aside0 (kq ≤ k) ∧ Aside0 (Kd.R Kd.string 9 w' w.heap.size (fun _ => True) v3 x3_1) ∧ Aside0 (Below w.heap.size w w'))
  case atStart => exact ⟨(y171), (0), eE, H', ⟨Nat.le_refl _⟩, ⟨rR HO173.out⟩, ⟨bB⟩⟩
  case round =>
   clear H'
   try clear c3
   obtain ⟨x3_1, x12_1, rfl, HA, HK1, HO_3, HB⟩ := hrel
   cases gk with
   | zero => exact absurd HA.out (by simp [impl_WeatherText.l0])
   | succ k1 =>
    have H := HA.out
    clear HA
    simp only [impl_WeatherText.l0] at H
    by_cases c7 : x12_1 < (l0.length : Int)
    ·
     rw [if_pos c7] at H
     have c7b0 : decide (x12_1 < (l0.length : Int)) = true := decide_eq_true c7
     clear c7
     by_cases c8 : 0 ≤ x12_1
     ·
      rw [if_pos c8] at H
      have c8b0 : decide (0 ≤ x12_1) = true := decide_eq_true c8
      clear c8
      by_cases c9 : x12_1 < (l0.length : Int)
      ·
       rw [if_pos c9] at H
       have c9b0 : decide (x12_1 < (l0.length : Int)) = true := decide_eq_true c9
       clear c9
       replace H := Option.bind_eq_some_iff.mp H
       obtain ⟨t176, A100, H⟩ := H
       replace H : (if t176.size + 1 ≤ 9223372036854775807 then ((impl_dec.f (wrap64 ((rd_T43 l0 x12_1).f1))).bind fun t177 => (if (t176 ++ (⟨#[47]⟩ : ByteArray)).size + t177.size ≤ 9223372036854775807 then (if x3_1.length < 8796093022208 then (impl_WeatherText.l0 k1 (x3_1 ++ [(t176 ++ (⟨#[47]⟩ : ByteArray)) ++ t177]) l0 (l0.length : Int) (wrap64 (x12_1 + 1))) else (none)) else (none))) else (none)) = some r := H
       have A10 := Aside0.mk A100
       clear A100
       by_cases c11 : t176.size + 1 ≤ 9223372036854775807
       ·
        rw [if_pos c11] at H
        have c11b0 := eq_true c11
        have c11b1 : decide (t176.size + 1 ≤ 9223372036854775807) = true := decide_eq_true c11
        try have c11b2 : (9223372036854775807 < t176.size + 1) = False := eq_false (Nat.not_lt.2 c11)
        replace H := Option.bind_eq_some_iff.mp H
        obtain ⟨t177, A120, H⟩ := H
        replace H : (if (t176 ++ (⟨#[47]⟩ : ByteArray)).size + t177.size ≤ 9223372036854775807 then (if x3_1.length < 8796093022208 then (impl_WeatherText.l0 k1 (x3_1 ++ [(t176 ++ (⟨#[47]⟩ : ByteArray)) ++ t177]) l0 (l0.length : Int) (wrap64 (x12_1 + 1))) else (none)) else (none)) = some r := H
        have A12 := Aside0.mk A120
        clear A120
        by_cases c13 : (t176 ++ (⟨#[47]⟩ : ByteArray)).size + t177.size ≤ 9223372036854775807
        ·
         rw [if_pos c13] at H
         have c13b0 := eq_true c13
         have c13b1 : decide ((t176 ++ (⟨#[47]⟩ : ByteArray)).size + t177.size ≤ 9223372036854775807) = true := decide_eq_true c13
         try have c13b2 : (9223372036854775807 < (t176 ++ (⟨#[47]⟩ : ByteArray)).size + t177.size) = False := eq_false (Nat.not_lt.2 c13)
         try have c13n : t176.size + 1 + t177.size ≤ 9223372036854775807 := by have h_ := c13; simp only [ByteArray.size_append] at h_; exact h_
         try have c13b3 : (9223372036854775807 < t176.size + 1 + t177.size) = False := eq_false (Nat.not_lt.2 c13n)
         by_cases c14 : x3_1.length < 8796093022208
         ·
          rw [if_pos c14] at H
          have LMc14 := Aside0.mk c14
          clear c14
          obtain ⟨y178, hy178⟩ : ∃ y_ : List ByteArray, y_ = (x3_1 ++ [(t176 ++ (⟨#[47]⟩ : ByteArray)) ++ t177]) := ⟨_, rfl⟩
          replace H : (impl_WeatherText.l0 k1 y178 l0 (l0.length : Int) (wrap64 (x12_1 + 1))) = some r := by first | (rw [hy178]; with_reducible exact H) | (have H2_ := (Option.bind_some _ _).symm.trans H; rw [hy178]; with_reducible exact H2_) | (have H2_ := (Option.bind_some _ _).symm.trans H; with_reducible exact H2_) | with_reducible exact H | (rw [hy178]; exact H) | exact H
          have Ny178 := Aside0.mk hy178
          clear hy178
          have H' := Aside0.mk H
          clear H
          have p174 : 0 ≤ (x12_1 : Int) := dD
          have q174 : x12_1 < (l0.length : Int) := dD
          obtain ⟨ad174, e174, hx174_0, hx174_1⟩ := at_T43 HR0.out x12_1 p174 q174
          cases e174
          replace hx174_0 := (HB.out.cell (World.block_lt_of_cell? w _ hx174_0)).trans hx174_0
          replace hx174_1 := (HB.out.cell (World.block_lt_of_cell? w _ hx174_1)).trans hx174_1
          replace p174 := eq_true p174
          replace q174 := eq_true q174
          try go_wp2_with (first | ((with_reducible refine gate_dst (N := 5) rfl ?_); refine box_event ?hg (N := 5) ?hd (cs := #[.int .i8 0, .int .i8 0]) (t := 43) ?hr ?_; (case hd => rfl); (case hg => rfl); (case hr => first | (go_simp; done) | (go_simp; rfl)); intro gb175 hg w15 hbox hb; have n0_ := Aside0.mk (Kd.R_below (rR HO_3.out) hb); have n1_ := Aside0.mk (below_step bB hb); have n2_ := Aside0.mk (hbox); have n3_ := Aside0.mk ((by rw [hg]; exact (below_size bB) : w.heap.size ≤ gb175)); have n4_ := Aside0.mk ((by rw [hg]; exact (below_size bB) : w.heap.size ≤ gb175)); clear HO_3; clear HB; have HO_3 := n0_; have HB := n1_; have BK175 := n2_; have GW175 := n3_; have GE175 := n4_; clear n0_ n1_ n2_ n3_ n4_; clear hb hbox hg; have hcz16_0 : w15.cell? ⟨gb175, 0, none⟩ = some (.int .i8 0) := (blk_cell BK175.out 0).trans rfl; have hcz16_1 : w15.cell? ⟨gb175, 1, none⟩ = some (.int .i8 0) := (blk_cell BK175.out 1).trans rfl; have hfz16_0 := blk_frozen BK175.out 0; have hfz16_1 := blk_frozen BK175.out 1))
          have n0_ : Aside0 (Kd.R Kd.string 9 ((w15.setCell ⟨gb175, 0, none⟩ (.int .i8 ((rd_T43 l0 x12_1).f0))).setCell ⟨gb175, 1, none⟩ (.int .i8 ((rd_T43 l0 x12_1).f1))) w.heap.size (fun _ => True) u3 x3_1) := ⟨by (with_reducible repeat (first | apply Kd.R_alloc | apply Kd.R_drewN | apply Kd.R_drew)); exact Kd.R_mono (Kd.R_far (p := ⟨gb175, 1, none⟩) (Kd.R_far (p := ⟨gb175, 0, none⟩) (Kd.R_types HO_3.out BK175.out (by decide)) (fun _ hk => hk.2) (.int .i8 ((rd_T43 l0 x12_1).f0))) (fun _ hk => hk.2) (.int .i8 ((rd_T43 l0 x12_1).f1))) (fun _ hk => trivial)⟩
          have n1_ : Aside0 (((w15.setCell ⟨gb175, 0, none⟩ (.int .i8 ((rd_T43 l0 x12_1).f0))).setCell ⟨gb175, 1, none⟩ (.int .i8 ((rd_T43 l0 x12_1).f1))).heap[gb175]? = some (.cells #[.int .i8 ((rd_T43 l0 x12_1).f0), .int .i8 ((rd_T43 l0 x12_1).f1)] 43 (0, 0))) := ⟨by (with_reducible repeat (first | refine blk_drewN ?_ _ | refine blk_drew ?_ | refine blk_alloc ?_ _)); refine blk_put (cs := #[.int .i8 ((rd_T43 l0 x12_1).f0), .int .i8 0]) ?_ 1 _ rfl; (with_reducible repeat (first | refine blk_drewN ?_ _ | refine blk_drew ?_ | refine blk_alloc ?_ _)); refine blk_put (cs := #[.int .i8 0, .int .i8 0]) ?_ 0 _ rfl; (with_reducible repeat (first | refine blk_drewN ?_ _ | refine blk_drew ?_ | refine blk_alloc ?_ _)); exact BK175.out⟩
          have n2_ : Aside0 (Below w.heap.size w ((w15.setCell ⟨gb175, 0, none⟩ (.int .i8 ((rd_T43 l0 x12_1).f0))).setCell ⟨gb175, 1, none⟩ (.int .i8 ((rd_T43 l0 x12_1).f1)))) := ⟨by repeat (first | (with_reducible first | exact HB.out | apply below_alloc | apply pw_below_drewN | apply below_drew1 | refine below_set ?_ GE175.out) | exact HB.out)⟩
          (try clear HO_3)
          (try clear BK175)
          (try clear HB)
          generalize ((w15.setCell ⟨gb175, 0, none⟩ (.int .i8 ((rd_T43 l0 x12_1).f0))).setCell ⟨gb175, 1, none⟩ (.int .i8 ((rd_T43 l0 x12_1).f1))) = w17 at n0_ n1_ n2_ ⊢
          have HO_3 := n0_
          have BK175 := n1_
          have HB := n2_
          clear n0_ n1_ n2_
          have n0_ := Aside0.mk (Kd.R_drew HO_3.out)
          have n1_ := Aside0.mk (blk_drew BK175.out)
          have n2_ := Aside0.mk (below_drew1 HB.out)
          clear HO_3 BK175 HB
          have HO_3 := n0_
          have BK175 := n1_
          have HB := n2_
          clear n0_ n1_ n2_
          refine start_ (n := 14) (S := fun w' => w'.cell? ⟨gb175, 0, none⟩ = some (.int .i8 ((rd_T43 l0 x12_1).f0)) ∧ w'.cell? ⟨gb175, 1, none⟩ = some (.int .i8 ((rd_T43 l0 x12_1).f1))) (ds := []) #[false, false, false, false, false, false, false, false, false, false, false, false, false, false] (by kernel_rfl) rfl rfl ⟨(blk_cell BK175.out 0).trans rfl, (blk_cell BK175.out 1).trans rfl⟩ (fun hHeld => ?_); refine with_tabW impl_WeatherText.tab7 impl_WeatherText.bits7 (fun HT_ HW_ => ?_)
          generalize w17.drew = w18 at HO_3 BK175 HB hHeld ⊢
          refine pure_ (i := 0) (N := some 16) (v := ?_) (a' := ?_) #[true, false, false, false, false, false, false, false, false, false, false, false, false, false] rfl rfl (any_of HT_.out (by kernel_rfl)) (fun _ _ _ h => h) (Or.inl ⟨by rfl, ?_⟩) ?_ ?_
          rotate_left
          ·
           intro w'
           go_simp
           with_reducible rfl
          rotate_left
          ·
           simp only [Act.put, List.setIfInBounds_toArray, List.set_cons_zero, List.set_cons_succ, i64_w, i32_w]
           rfl
          refine pure_ (i := 1) (N := some 17) (v := ?_) (a' := ?_) #[true, true, false, false, false, false, false, false, false, false, false, false, false, false] rfl rfl (any_of HT_.out (by kernel_rfl)) (fun _ _ _ h => h) (Or.inl ⟨by rfl, ?_⟩) ?_ ?_
          rotate_left
          ·
           intro w'
           go_simp
           with_reducible rfl
          rotate_left
          ·
           simp only [Act.put, List.setIfInBounds_toArray, List.set_cons_zero, List.set_cons_succ, i64_w, i32_w]
           rfl
          refine pure_ (i := 6) (N := some 22) (v := ?_) (a' := ?_) #[true, true, false, false, false, false, true, false, false, false, false, false, false, false] rfl rfl (any_of HT_.out (by kernel_rfl)) (fun _ _ _ h => h) (Or.inl ⟨by rfl, ?_⟩) ?_ ?_
          rotate_left
          ·
           intro w'
           go_simp
           with_reducible rfl
          rotate_left
          ·
           simp only [Act.put, List.setIfInBounds_toArray, List.set_cons_zero, List.set_cons_succ, i64_w, i32_w]
           rfl
          refine take_ (i := 2) (N := some 18) (v := ?_) (a' := ?_) #[true, true, true, false, false, false, true, false, false, false, false, false, false, false] rfl rfl (take_ofW HT_.out HW_.out (by kernel_rfl)) (fun _ _ _ h => h) (Or.inl ⟨by rfl, ?_⟩) hHeld ?_ ?_
          rotate_left
          ·
           rintro w' ⟨s0, s1⟩
           go_simp
           with_reducible rfl
          rotate_left
          ·
           simp only [Act.put, List.setIfInBounds_toArray, List.set_cons_zero, List.set_cons_succ, i64_w, i32_w]
           rfl
          refine pure_ (i := 3) (N := some 19) (v := ?_) (a' := ?_) #[true, true, true, true, false, false, true, false, false, false, false, false, false, false] rfl rfl (any_of HT_.out (by kernel_rfl)) (fun _ _ _ h => h) (Or.inl ⟨by rfl, ?_⟩) ?_ ?_
          rotate_left
          ·
           intro w'
           go_simp
           with_reducible rfl
          rotate_left
          ·
           simp only [Act.put, List.setIfInBounds_toArray, List.set_cons_zero, List.set_cons_succ, i64_w, i32_w]
           rfl
          refine take_ (i := 7) (N := some 23) (v := ?_) (a' := ?_) #[true, true, true, true, false, false, true, true, false, false, false, false, false, false] rfl rfl (take_ofW HT_.out HW_.out (by kernel_rfl)) (fun _ _ _ h => h) (Or.inl ⟨by rfl, ?_⟩) hHeld ?_ ?_
          rotate_left
          ·
           rintro w' ⟨s0, s1⟩
           go_simp
           with_reducible rfl
          rotate_left
          ·
           simp only [Act.put, List.setIfInBounds_toArray, List.set_cons_zero, List.set_cons_succ, i64_w, i32_w]
           rfl
          refine pure_ (i := 8) (N := some 24) (v := ?_) (a' := ?_) #[true, true, true, true, false, false, true, true, true, false, false, false, false, false] rfl rfl (any_of HT_.out (by kernel_rfl)) (fun _ _ _ h => h) (Or.inl ⟨by rfl, ?_⟩) ?_ ?_
          rotate_left
          ·
           intro w'
           go_simp
           with_reducible rfl
          rotate_left
          ·
           simp only [Act.put, List.setIfInBounds_toArray, List.set_cons_zero, List.set_cons_succ, i64_w, i32_w]
           rfl
          refine one_ (i := 4) (N := some 20) #[true, true, true, true, true, false, true, true, true, false, false, false, false, false] rfl rfl (one_of HT_.out (by kernel_rfl)) (by decide) (fun K hK => ?_)
          refine goes_ Tryz.func41 (by kernel_rfl) rfl #[.int .i64 (wrap64 ((rd_T43 l0 x12_1).f0))] (by rfl) rfl rfl aA ?_
          with_reducible refine (impl_dec.calls (wrap64 ((rd_T43 l0 x12_1).f0)) t176 _ A10.out).mono ?_
          rintro e w' ⟨rfl, ⟨nd, rfl⟩⟩
          refine ⟨_, rfl, ?_⟩
          refine hK.out _ _ ⟨(blk_cell BK175.out 0).trans rfl, (blk_cell BK175.out 1).trans rfl⟩ (fun hHeld => ?_)
          clear hK K
          refine norm_ (a' := ?_) ?_ ?_
          rotate_left
          ·
           show Act.put _ (some 20) _ = _
           simp only [Act.put, List.setIfInBounds_toArray, List.set_cons_zero, List.set_cons_succ, i64_w, i32_w]
           rfl
          refine pure_ (i := 5) (N := some 21) (v := ?_) (a' := ?_) #[true, true, true, true, true, true, true, true, true, false, false, false, false, false] rfl rfl (any_of HT_.out (by kernel_rfl)) (fun _ _ _ h => h) (Or.inl ⟨by rfl, ?_⟩) ?_ ?_
          rotate_left
          ·
           intro w'
           go_simp
           with_reducible rfl
          rotate_left
          ·
           simp only [Act.put, List.setIfInBounds_toArray, List.set_cons_zero, List.set_cons_succ, i64_w, i32_w]
           rfl
          refine one_ (i := 9) (N := some 25) #[true, true, true, true, true, true, true, true, true, true, false, false, false, false] rfl rfl (one_of HT_.out (by kernel_rfl)) (by decide) (fun K hK => ?_)
          refine goes_ Tryz.func41 (by kernel_rfl) rfl #[.int .i64 (wrap64 ((rd_T43 l0 x12_1).f1))] (by rfl) rfl rfl aA ?_
          with_reducible refine (impl_dec.calls (wrap64 ((rd_T43 l0 x12_1).f1)) t177 _ A12.out).mono ?_
          rintro e w' ⟨rfl, ⟨nd, rfl⟩⟩
          refine ⟨_, rfl, ?_⟩
          refine hK.out _ _ ⟨(blk_cell BK175.out 0).trans rfl, (blk_cell BK175.out 1).trans rfl⟩ (fun hHeld => ?_)
          clear hK K
          refine norm_ (a' := ?_) ?_ ?_
          rotate_left
          ·
           show Act.put _ (some 25) _ = _
           simp only [Act.put, List.setIfInBounds_toArray, List.set_cons_zero, List.set_cons_succ, i64_w, i32_w]
           rfl
          refine pure_ (i := 10) (N := some 26) (v := ?_) (a' := ?_) #[true, true, true, true, true, true, true, true, true, true, true, false, false, false] rfl rfl (any_of HT_.out (by kernel_rfl)) (fun _ _ _ h => h) (Or.inl ⟨by rfl, ?_⟩) ?_ ?_
          rotate_left
          ·
           intro w'
           go_simp
           with_reducible rfl
          rotate_left
          ·
           simp only [Act.put, List.setIfInBounds_toArray, List.set_cons_zero, List.set_cons_succ, i64_w, i32_w]
           rfl
          refine one_ (i := 11) (N := some 27) #[true, true, true, true, true, true, true, true, true, true, true, true, false, false] rfl rfl (one_of HT_.out (by kernel_rfl)) (by decide) (fun K hK => ?_)
          refine value_ (w1 := ?_) (v := ?_) (by rfl) rfl ?_ ?_
          rotate_left 2
          ·
           go_simp
           constructor
           ·
            rfl
           ·
            rfl
          refine hK.out _ _ ⟨(blk_cell (blk_alloc BK175.out _) 0).trans rfl, (blk_cell (blk_alloc BK175.out _) 1).trans rfl⟩ (fun hHeld => ?_)
          clear hK K
          refine norm_ (a' := ?_) ?_ ?_
          rotate_left
          ·
           show Act.put _ (some 27) _ = _
           simp only [Act.put, List.setIfInBounds_toArray, List.set_cons_zero, List.set_cons_succ, i64_w, i32_w]
           rfl
          refine one_ (i := 12) (N := some 28) #[true, true, true, true, true, true, true, true, true, true, true, true, true, false] rfl rfl (one_of HT_.out (by kernel_rfl)) (by decide) (fun K hK => ?_)
          refine Kd.R_append_step Kd.string (w0 := w) w.heap.size (by rfl) (.tmp 16) (.tmp 27) 57 9 (.string ⟨#[]⟩) 16 rfl Tryz.underlying57 info9 rfl (by decide) (by omega) u3 x3_1 ((t176 ++ (⟨#[47]⟩ : ByteArray)) ++ t177) [.string ((t176 ++ (⟨#[47]⟩ : ByteArray)) ++ t177)] (fun _ => True) (fun _ => False) rfl rfl ?aP (fun _ hk => hk.elim) ?aF ?aO ?aB ?aS ?aL ?_
          (case aP => exact rfl)
          (case aB => exact (by repeat (first | (with_reducible first | exact HB.out | apply below_alloc | apply pw_below_drewN | apply below_drew1 | refine below_set ?_ GE175.out) | exact HB.out)))
          (case aF => exact (fun _ _ => trivial))
          (case aO => exact (rR HO_3.out))
          (case aS => exact (below_size (by repeat (first | (with_reducible first | exact HB.out | apply below_alloc | apply pw_below_drewN | apply below_drew1 | refine below_set ?_ GE175.out) | exact HB.out))))
          (case aL => have := LMc14.out; omega)
          intro v179 w19 ho hb hg hat
          rw [← Ny178.out] at ho
          have n0_ := Aside0.mk (blk_grown (g := gb175) (o := .cells #[.int .i8 ((rd_T43 l0 x12_1).f0), .int .i8 ((rd_T43 l0 x12_1).f1)] 43 (0, 0)) (by (with_reducible repeat (first | refine blk_drewN ?_ _ | refine blk_drew ?_ | refine blk_alloc ?_ _)); exact BK175.out) hg (Kd.R_ne HO_3.out BK175.out (by decide)))
          have n1_ := Aside0.mk (hb)
          have n2_ := Aside0.mk (ho)
          clear BK175 HB HO_3
          have BK175 := n0_
          have HB := n1_
          have HO180 := n2_
          clear n0_ n1_ n2_ ho hb hg hat
          refine hK.out _ _ ⟨(blk_cell BK175.out 0).trans rfl, (blk_cell BK175.out 1).trans rfl⟩ (fun hHeld => ?_)
          clear hK K
          refine norm_ (a' := ?_) ?_ ?_
          rotate_left
          ·
           show Act.put _ (some 28) _ = _
           simp only [Act.put, List.setIfInBounds_toArray, List.set_cons_zero, List.set_cons_succ, i64_w, i32_w]
           rfl
          refine pure_ (i := 13) (N := some 3) (v := ?_) (a' := ?_) #[true, true, true, true, true, true, true, true, true, true, true, true, true, true] rfl rfl (any_of HT_.out (by kernel_rfl)) (fun _ _ _ h => h) (Or.inl ⟨by rfl, ?_⟩) ?_ ?_
          rotate_left
          ·
           intro w'
           go_simp
           with_reducible rfl
          rotate_left
          ·
           simp only [Act.put, List.setIfInBounds_toArray, List.set_cons_zero, List.set_cons_succ, i64_w, i32_w]
           rfl
          refine done_ (done_of HT_.out (by kernel_rfl)) ?_
          try go_wp2
          go_roundg k1
          case measure => have := HK1.out; omega
          case rel => exact ⟨(y178), (wrap64 (x12_1 + 1)), eE, H', ⟨by have := HK1.out; omega⟩, ⟨rR HO180.out⟩, ⟨by repeat (first | (with_reducible first | exact HB.out | apply below_alloc | apply pw_below_drewN | apply below_drew1 | refine below_set ?_ GE175.out) | exact HB.out)⟩⟩
         ·
          rw [if_neg c14] at H
          exact absurd H (by simp)
        ·
         rw [if_neg c13] at H
         exact absurd H (by simp)
       ·
        rw [if_neg c11] at H
        exact absurd H (by simp)
      ·
       rw [if_neg c9] at H
       exact absurd H (by simp)
     ·
      rw [if_neg c8] at H
      exact absurd H (by simp)
    ·
     rw [if_neg c7] at H
     have c7b0 : decide (x12_1 < (l0.length : Int)) = false := decide_eq_false c7
     clear c7
     replace H := Option.bind_eq_some_iff.mp H
     obtain ⟨t181, A200, H⟩ := H
     replace H : (some t181) = some r := H
     have A20 := Aside0.mk A200
     clear A200
     obtain rfl := Option.some.inj H
     obtain ⟨Ao21, co21, eo21⟩ := Kd.R_slice HO_3.out
     subst eo21
     go_wp2_with (first | ((with_reducible refine gate_callee (f := 42) rfl ?_); refine goesL_ (some 31) rfl rfl Tryz.func42 (by kernel_rfl) rfl #[.slice Ao21 x3_1.length co21, .string (⟨#[32]⟩ : ByteArray)] rfl aA ?_; (with_reducible refine (strings_Join.calls _ _ x3_1 (⟨#[32]⟩ : ByteArray) t181 _ ?side1 ?side2 A20.out).mono ?_); (case side1 => exact cC HO_3.out); (case side2 => exact (Kd.R_reads' HO_3.out).2.1); rintro e w22 ⟨rfl, hb⟩; refine ⟨_, rfl, ?_⟩; have n0_ := Aside0.mk (Kd.R_below (rR HO_3.out) hb); have n1_ := Aside0.mk (below_step bB hb); clear HO_3; clear HB; have HO_3 := n0_; have HB := n1_; clear n0_ n1_; (try clear hb); (try clear hb2); (try clear hk); (try clear hi)))
     go_ret
     exact ⟨wE, bB⟩
 ·
  replace c3 := Bool.eq_false_iff.mpr c3
  subst c3
  have H1 : (some (⟨#[]⟩ : ByteArray)) = some r := by rw [if_neg (show ¬ (false = true) by decide)] at H; exact H
  clear H
  have H := H1
  clear H1
  obtain rfl := Option.some.inj H
  go_enter Tryz.func9, Tryz.ntmps9
  go_wp2_with (first | ((with_reducible refine gate_callee (f := 18) rfl ?_); refine goesL_ (some 7) rfl rfl Tryz.func18 (by kernel_rfl) rfl #[.slice A0 l0.length c0] rfl aA ?_; (with_reducible refine (impl_ValidWeather.calls k _ _ l0 false _ ?side1 ?side2 A2.out).mono ?_); (case side1 => repeat (first | exact HR0.out | (with_reducible refine Kd.C_alloc ?_ _) | (with_reducible refine Kd.C_drewN ?_ _) | (with_reducible refine Kd.C_drew ?_))); (case side2 => exact HC0.out); rintro e w23 ⟨rfl, hb⟩; refine ⟨_, rfl, ?_⟩; have n0_ := Aside0.mk (below_step bB hb); clear HB; have HB := n0_; clear n0_; (try clear hb); (try clear hb2); (try clear hk); (try clear hi)))
  go_ret
  exact ⟨wE, bB⟩

-- NOT PRINTED: function 80 (strings_explode)

/-! ### internal/stringslite.IndexByte: function 94, by the machine's own entry -/
def stringslite_IndexByte.f (a0 : ByteArray) (a1 : Int) : Option (Int) := some (Lib.indexByte a0.data.toList a1.toNat.toUInt8)
set_option maxHeartbeats 8000000 in
set_option maxRecDepth 100000 in
theorem stringslite_IndexByte.calls (a0 : ByteArray) (a1 : Int) (r : Int) (w : World) (h : stringslite_IndexByte.f a0 a1 = some r) :
  Calls Tryz.prog 94 #[.string a0, .int .u8 a1] w fun e w' => e = .returned (.int .i64 r) ∧ Drawn0 w w' := by
 obtain rfl := Option.some.inj h
 go_enter Tryz.func94, Tryz.ntmps94
 go_wp2
 rw [run_callFunc_extern Tryz.func110 (by kernel_rfl) (by kernel_rfl) (by kernel_rfl) (e := Extern.BytealgIndexByte.indexByte) (by kernel_rfl), Lib.run_indexByteString]
 simp only [Result.andThen]
 rw [Oper.upon_value]
 go_wp2
 go_ret
 exact ⟨rfl, Drawn0.refl _⟩

-- NOT PRINTED: function 83 (stringslite_Index)

-- NOT PRINTED: function 82 (strings_Index)

-- NOT PRINTED: function 81 (strings_Count)

-- NOT PRINTED: function 65 (strings_genSplit)

/-! ### strings.Split, by the shelf's contract -/
def strings_Split.f (a0 : ByteArray) (a1 : ByteArray) : Option ((List ByteArray)) := if a0.size < 4294967281 ∧ 1 ≤ a1.size then some (Lib.splitB a1 0 (Lib.countB a0 a1) a0) else none
theorem strings_Split.calls (a0 : ByteArray) (a1 : ByteArray) (r : List ByteArray) (w : World) (hG_ : Go.Proofs.YtibpndhcijmhpaaGreatDoor.B.GL w) (h : strings_Split.f a0 a1 = some r) :
  Calls Tryz.prog 37 #[.string a0, .string a1] w fun e w' => ∃ v0_ : Value, e = .returned (v0_) ∧ Kd.R Kd.string 9 w' w.heap.size (fun _ => True) v0_ r ∧ Below w.heap.size w w' := by
 unfold strings_Split.f at h
 by_cases hc : a0.size < 4294967281 ∧ 1 ≤ a1.size
 case neg => rw [if_neg hc] at h; cases h
 rw [if_pos hc] at h
 obtain rfl := Option.some.inj h
 obtain ⟨hc, h1⟩ := hc
 have hn := Lib.countB_le a1 h1 a0.size a0 (Nat.le_refl _)
 have hl := Lib.splitB_all a1 h1 0 _ a0 rfl
 obtain ⟨⟨m, hm⟩, _⟩ := hG_
 refine (Tryz.strings_Split a0 a1 m w hc hm h1).mono ?_
 rintro e w' ⟨rfl, rfl⟩
 refine ⟨_, rfl, ?_, below_alloc (Below.refl _ _) _⟩
 rw [← hl]
 refine Kd.R_of_own ?_ (fun _ _ => trivial)
 have h2 := World.ownsRow_lit (base := w.heap.size) (e := 9) (size := 1) w ((Lib.splitB a1 0 (Lib.countB a0 a1) a0).map Value.string).toArray (Lib.splitB a1 0 (Lib.countB a0 a1) a0).length (Nat.le_refl _) ?_ (by simp)
 ·
  simpa [encs] using h2
 ·
  rw [hl]
  simp only [maxLen]
  omega

-- NOT PRINTED: function 66 (stringslite_Cut)

/-! ### strings.Cut, by the shelf's contract -/
def strings_Cut.f (a0 : ByteArray) (a1 : ByteArray) : Option (ByteArray × ByteArray × Bool) := if a0.size < 4294967281 then some (⟨(Lib.cut a0.data.toList a1.data.toList).1.toArray⟩, ⟨(Lib.cut a0.data.toList a1.data.toList).2.1.toArray⟩, (Lib.cut a0.data.toList a1.data.toList).2.2) else none
theorem strings_Cut.calls (a0 : ByteArray) (a1 : ByteArray) (r1 : ByteArray) (r2 : ByteArray) (r3 : Bool) (w : World) (hG_ : Go.Proofs.YtibpndhcijmhpaaGreatDoor.B.GL w) (h : strings_Cut.f a0 a1 = some (r1, r2, r3)) :
  Calls Tryz.prog 38 #[.string a0, .string a1] w fun e w' => e = .returned (.tuple #[.string r1, .string r2, .bool r3]) ∧ Drawn0 w w' := by
 unfold strings_Cut.f at h
 by_cases hc : a0.size < 4294967281
 case neg => rw [if_neg hc] at h; cases h
 rw [if_pos hc] at h
 simp only [Option.some.injEq, Prod.mk.injEq] at h
 obtain ⟨rfl, rfl, rfl⟩ := h
 obtain ⟨⟨m, hm⟩, _⟩ := hG_
 refine (Tryz.strings_Cut a0 a1 m w hc hm).mono ?_
 rintro e w' ⟨rfl, n, rfl⟩
 exact ⟨rfl, n, rfl⟩

-- NOT PRINTED: function 114 (stringslite_Clone)

-- NOT PRINTED: function 99 (strconv_syntaxError)

-- NOT PRINTED: function 100 (strconv_rangeError)

-- NOT PRINTED: function 101 (strconv_baseError)

-- NOT PRINTED: function 102 (strconv_bitSizeError)

/-! ### impl.number, by hand: strconv.ParseInt by the shelf's contract -/
def numP (l : List UInt8) : Int := match Lib.parseIntB 64 l with
 | .ok v => v
 | _ => -1000
def impl_number.f (a0 : ByteArray) : Option (Int) := if a0.size ≤ 281474976710656 then some (numP a0.data.toList) else none
set_option maxHeartbeats 8000000 in
set_option maxRecDepth 100000 in
theorem impl_number.calls (a0 : ByteArray) (r : Int) (w : World) (hG_ : Go.Proofs.YtibpndhcijmhpaaGreatDoor.B.GL w) (h : impl_number.f a0 = some r) :
  Calls Tryz.prog 39 #[.string a0] w fun e w' => e = .returned (.int .i64 r) ∧ Below w.heap.size w w' := by
 unfold impl_number.f at h
 by_cases hc : a0.size ≤ 281474976710656
 case neg => rw [if_neg hc] at h; cases h
 rw [if_pos hc] at h
 obtain rfl := Option.some.inj h
 obtain ⟨_, ⟨te, pe, hs⟩, tr, pr, hr⟩ := hG_
 clear h
 unfold numP
 rcases hp : Lib.parseIntB 64 a0.data.toList with v | _ | _
 ·
  have HS := Aside0.mk (Tryz.strconv_ParseInt_10_at64_ok a0 (by omega) v hp w)
  clear hs hr hp hc
  go_enter Tryz.func39, Tryz.ntmps39
  go_wp2_with (first | (go_at_call 67; refine HS.out.mono ?_; rintro e w1 ⟨rfl, hw1⟩))
  go_ret
  refine ⟨rfl, ?_⟩
  rcases hw1 with rfl | ⟨t, rfl⟩
  ·
   exact Below.refl _ _
  ·
   exact Lib.bytesWorld_below _ _ _
 ·
  have HS := Aside0.mk (Tryz.strconv_ParseInt_10_at64_bad a0 hc ⟨fun e => (by rw [hp] at e; cases e), fun v e => (by rw [hp] at e; cases e)⟩ _ w hs (.inr ⟨te, pe, rfl⟩))
  clear hs hr hp hc
  go_enter Tryz.func39, Tryz.ntmps39
  go_wp2_with (first | (go_at_call 67; refine HS.out.mono ?_; rintro e w1 ⟨NB, rfl, hNB, hNc, hb1⟩))
  go_ret
  exact ⟨rfl, hb1⟩
 ·
  have HS := Aside0.mk (Tryz.strconv_ParseInt_10_at64_range a0 hc hp _ w hr (.inr ⟨tr, pr, rfl⟩))
  clear hs hr hp hc
  go_enter Tryz.func39, Tryz.ntmps39
  go_wp2_with (first | (go_at_call 67; refine HS.out.mono ?_; rintro e w1 ⟨NB, rfl, hNB, hNc, hb1⟩))
  go_ret
  exact ⟨rfl, hb1⟩

/-! ### impl_within: function 40 -/
def impl_within.f (a0 : Int) (a1 : Int) (a2 : Int) : Option (Bool) := if a1 ≤ a0 then (some (decide (a0 ≤ a2))) else (some false)
set_option maxHeartbeats 8000000 in
set_option maxRecDepth 100000 in
theorem impl_within.calls (a0 : Int) (a1 : Int) (a2 : Int) (r : Bool) (w : World) (h : impl_within.f a0 a1 a2 = some r) :
  Calls Tryz.prog 40 #[.int .i64 a0, .int .i64 a1, .int .i64 a2] w fun e w' => e = .returned (.bool r) ∧ Drawn0 w w' := by
 have H : (if a1 ≤ a0 then (some (decide (a0 ≤ a2))) else (some false)) = some r := h
 clear h
 by_cases c4 : a1 ≤ a0
 ·
  rw [if_pos c4] at H
  have c4b0 : decide (a1 ≤ a0) = true := decide_eq_true c4
  clear c4
  obtain rfl := Option.some.inj H
  go_enter Tryz.func40, Tryz.ntmps40
  go_wp2
  go_ret
  exact ⟨eE, by repeat (first | exact Drawn0.refl _ | apply Drawn0.step)⟩
 ·
  rw [if_neg c4] at H
  have c4b0 : decide (a1 ≤ a0) = false := decide_eq_false c4
  clear c4
  obtain rfl := Option.some.inj H
  go_enter Tryz.func40, Tryz.ntmps40
  go_wp2
  go_ret
  exact ⟨eE, by repeat (first | exact Drawn0.refl _ | apply Drawn0.step)⟩

end Go.Proofs.YtibpndhcijmhpaaGreatDoor.QG
