/- Plain laws: what is drawn. -/
import Derived.Test.YtibpndhcijmhpaaGreatDoorEv
import Derived.Test.YtibpndhcijmhpaaGreatDoorQHx
import Derived.Laws.BitsLemmas
namespace Go.Proofs.YtibpndhcijmhpaaGreatDoor.QG
set_option linter.unusedSimpArgs false
set_option linter.unusedVariables false
open Go.RowKit Go.Proofs.YtibpndhcijmhpaaGreatDoor.B Go.Proofs.YtibpndhcijmhpaaGreatDoorW.PrintWords Go.Proofs.YtibpndhcijmhpaaGreatDoorW.PrintLast Go.Proofs.YtibpndhcijmhpaaGreatDoorW.PrintMore

/-- Bytes. -/
def BytesIn (c : List Int) : Prop := ∀ i, 0 ≤ rd c i ∧ rd c i ≤ 255
theorem u64_in (n : Int) : 0 ≤ IntKind.u64.wrap n ∧ IntKind.u64.wrap n < 18446744073709551616 := by
  have e : IntKind.u64.bits = 64 := rfl
  have s : IntKind.u64.signed = false := rfl
  unfold IntKind.wrap
  simp only [e, s]
  simp
  omega
theorem u64_self (n : Int) (h0 : 0 ≤ n) (h1 : n < 2 ^ 32) : IntKind.u64.wrap n = n := by
  have e : IntKind.u64.bits = 64 := rfl
  have s : IntKind.u64.signed = false := rfl
  unfold IntKind.wrap
  simp only [e, s]
  simp
  omega
theorem low_in (z : Int) : 0 ≤ wrap64 (Go.bits .and .u64 (IntKind.u64.wrap z / 1099511627776) 255) ∧ wrap64 (Go.bits .and .u64 (IntKind.u64.wrap z / 1099511627776) 255) ≤ 255 := by
  obtain ⟨h0, h1⟩ := u64_in z
  have hm := bits_mask .u64 32 (by decide) u64_self 8 (by decide) (IntKind.u64.wrap z / 1099511627776) (by omega) (by omega)
  have hm2 : Go.bits .and .u64 (IntKind.u64.wrap z / 1099511627776) 255 = (IntKind.u64.wrap z / 1099511627776) % 256 := hm
  rw [hm2, wrap64_in (by omega) (by omega)]
  omega
theorem next_is (c : List Int) (hb : BytesIn c) (hc : c.length ≤ 4096) (at_ sd : Int) (h0 : 0 ≤ at_) (h1 : at_ ≤ 1000000) : ∃ x sd2, spec_l00Src_next.f c at_ sd = some (x, at_ + 1, sd2) ∧ 0 ≤ x ∧ x ≤ 255 := by
  unfold spec_l00Src_next.f
  have w1 : wrap64 (at_ + 1) = at_ + 1 := wrap64_in (by omega) (by omega)
  have hr := hb at_
  have w2 : wrap64 (rd c at_) = rd c at_ := wrap64_in (by omega) (by omega)
  rw [w1]
  by_cases c1 : at_ < (c.length : Int)
  · rw [if_pos c1, if_pos h0]
    by_cases c2 : at_ + 1 ≤ (c.length : Int)
    · rw [if_pos c2]
      exact ⟨_, _, rfl, by rw [w2]; exact hr.1, by rw [w2]; exact hr.2⟩
    · omega
  · rw [if_neg c1]
    by_cases c2 : at_ + 1 ≤ (c.length : Int)
    · omega
    · rw [if_neg c2]
      exact ⟨_, _, rfl, (low_in _).1, (low_in _).2⟩
theorem pick_is (c : List Int) (hb : BytesIn c) (hc : c.length ≤ 4096) (at_ sd n : Int) (h0 : 0 ≤ at_) (h1 : at_ ≤ 1000000) (hn : n ≤ 200) : ∃ x a sd2, spec_l00Src_pick.f c at_ sd n = some (x, a, sd2) ∧ 0 ≤ x ∧ (x < n ∨ x = 0) ∧ at_ ≤ a ∧ a ≤ at_ + 1 := by
  unfold spec_l00Src_pick.f
  by_cases c1 : n ≤ 1
  · rw [if_pos c1]
    exact ⟨0, at_, sd, rfl, by omega, .inr rfl, by omega, by omega⟩
  · rw [if_neg c1]
    obtain ⟨x, sd2, hx, x0, x1⟩ := next_is c hb hc at_ sd h0 h1
    rw [hx]
    simp only [Option.bind_some]
    rw [if_neg (by omega), if_neg (by omega)]
    refine ⟨_, _, _, rfl, Int.tmod_nonneg _ x0, .inl (Int.tmod_lt_of_pos _ (by omega)), by omega, by omega⟩
theorem one_is (c : List Int) (hb : BytesIn c) (hc : c.length ≤ 4096) (at_ sd n : Int) (h0 : 0 ≤ at_) (h1 : at_ ≤ 1000000) (hn : n ≤ 200) : ∃ x a sd2, spec_l00Src_one.f c at_ sd n = some (x, a, sd2) ∧ at_ ≤ a ∧ a ≤ at_ + 1 := by
  obtain ⟨x, a, sd2, hx, _, _, ha, hb⟩ := pick_is c hb hc at_ sd n h0 h1 hn
  unfold spec_l00Src_one.f
  rw [hx]
  exact ⟨_, _, _, rfl, ha, hb⟩
theorem P6Pick_is (c : List Int) (hb : BytesIn c) (hc : c.length ≤ 4096) (n : Int) (hn : n ≤ 200) : ∃ x, spec_P6Pick.f c n = some x ∧ 0 ≤ x ∧ (x < n ∨ x = 0) := by
  obtain ⟨x, a, sd2, hx, h0, h1, _, _⟩ := pick_is c hb hc 0 0 n (by omega) (by omega) hn
  unfold spec_P6Pick.f spec_l00From.f
  simp only [Option.bind_some]
  rw [hx]
  exact ⟨x, rfl, h0, h1⟩
/-- Days as they are drawn. -/
def DayIn (x : S43) : Prop := (0 ≤ x.f0 ∧ x.f0 ≤ 39) ∧ 0 ≤ x.f1 ∧ x.f1 ≤ 34
theorem i8_in (n : Int) (h0 : 0 ≤ n) (h : n ≤ 100) : IntKind.i8.wrap n = n := by
  have e : IntKind.i8.bits = 8 := rfl
  have s : IntKind.i8.signed = true := rfl
  unfold IntKind.wrap
  simp only [e, s]
  simp
  omega
theorem drawn_loop (c : List Int) (hb : BytesIn c) (hc : c.length ≤ 4096) : ∀ (n : Nat) (xs : List (S43)) (at_ sd : Int), n ≤ 8 → xs.length + n ≤ 8 → (∀ x ∈ xs, DayIn x) → 0 ≤ at_ → at_ + 3 * n ≤ 100 →
    ∃ ys a sd2, Evn (fun k => spec_l03Drawn.l0 k xs n c at_ sd) (ys, a, sd2) ∧ ys.length = xs.length + n ∧ ∀ x ∈ ys, DayIn x := by
  intro n
  induction n with
  | zero =>
    intro xs at_ sd _ hl hx _ _
    refine ⟨xs, at_, sd, Evn.succ ?_, by omega, hx⟩
    simp only [spec_l03Drawn.l0]
    exact Evn.neg (by omega) (Evn.now _)
  | succ n ih =>
    intro xs at_ sd hn hl hx h0 h1
    obtain ⟨x, a, s1, e1, x0, x1, g0, g1⟩ := pick_is c hb hc at_ sd 40 h0 (by omega) (by omega)
    obtain ⟨o, a2, s2, e2, g2, g3⟩ := one_is c hb hc a s1 3 (by omega) (by omega) (by omega)
    obtain ⟨y, a3, s3, e3, y0, y1, g4, g5⟩ := pick_is c hb hc a2 s2 35 (by omega) (by omega) (by omega)
    have w1 : wrap64 (((n + 1 : Nat) : Int) - 1) = (n : Int) := by rw [wrap64_in (by omega) (by omega)]; omega
    have step : ∀ d : S43, DayIn d → ∃ ys a sd2, Evn (fun k => spec_l03Drawn.l0 k (xs ++ [d]) (n : Int) c a3 s3) (ys, a, sd2) ∧ ys.length = xs.length + (n + 1) ∧ ∀ x ∈ ys, DayIn x := fun d hd => by
      obtain ⟨ys, b, s4, h, hl2, hx2⟩ := ih (xs ++ [d]) a3 s3 (by omega) (by simp; omega) (fun z hz => by
        rcases List.mem_append.1 hz with h | h
        · exact hx z h
        · rw [List.mem_singleton.1 h]; exact hd) (by omega) (by omega)
      exact ⟨ys, b, s4, h, by rw [hl2]; simp; omega, hx2⟩
    cases o with
    | true =>
      obtain ⟨ys, b, s4, h, hl2, hx2⟩ := step ⟨0, IntKind.i8.wrap y⟩ ⟨⟨Int.le_refl _, by show (0 : Int) ≤ 39; decide⟩, by show 0 ≤ IntKind.i8.wrap y; rw [i8_in y y0 (by omega)]; exact y0, by show IntKind.i8.wrap y ≤ 34; rw [i8_in y y0 (by omega)]; omega⟩
      refine ⟨ys, b, s4, Evn.succ ?_, hl2, hx2⟩
      simp only [spec_l03Drawn.l0, e1, e2, e3, Option.bind_some, w1]
      exact Evn.pos (by omega) (Evn.pos trivial (Evn.pos (by omega) h))
    | false =>
      obtain ⟨ys, b, s4, h, hl2, hx2⟩ := step ⟨IntKind.i8.wrap x, IntKind.i8.wrap y⟩ ⟨⟨by show 0 ≤ IntKind.i8.wrap x; rw [i8_in x x0 (by omega)]; exact x0, by show IntKind.i8.wrap x ≤ 39; rw [i8_in x x0 (by omega)]; omega⟩, by show 0 ≤ IntKind.i8.wrap y; rw [i8_in y y0 (by omega)]; exact y0, by show IntKind.i8.wrap y ≤ 34; rw [i8_in y y0 (by omega)]; omega⟩
      refine ⟨ys, b, s4, Evn.succ ?_, hl2, hx2⟩
      simp only [spec_l03Drawn.l0, e1, e2, e3, Option.bind_some, w1]
      exact Evn.pos (by omega) (Evn.neg (by simp) (Evn.pos (by omega) h))
theorem P6Weather_is (c : List Int) (hb : BytesIn c) (hc : c.length ≤ 4096) : ∃ ys, Evn (fun k => spec_P6Weather.f k c) ys ∧ ys.length ≤ 8 ∧ ∀ x ∈ ys, DayIn x := by
  obtain ⟨x, a, s1, e1, x0, x1, g0, g1⟩ := pick_is c hb hc 0 0 9 (by omega) (by omega) (by omega)
  obtain ⟨ys, b, s2, h, hl, hx⟩ := drawn_loop c hb hc x.toNat [] a s1 (by omega) (by simp; omega) (fun x hx => by cases hx) (by omega) (by omega)
  rw [Int.toNat_of_nonneg x0] at h
  refine ⟨ys, ?_, by simp at hl; omega, hx⟩
  unfold spec_P6Weather.f spec_l00From.f spec_l03Drawn.f
  simp only [Option.bind_some, e1]
  exact Evn.bind h (Evn.now _)
/-- A plan: days that rise. -/
def PlanIn (ps : List Int) (n : Int) : Prop := ∀ i : Nat, i < ps.length → (0 ≤ rd ps i ∧ rd ps i < n) ∧ ∀ j : Nat, j < i → rd ps j < rd ps i
theorem rd_app (ps : List Int) (x : Int) (i : Nat) (h : i < ps.length) : rd (ps ++ [x]) i = rd ps i := by
  unfold rd
  rw [Int.toNat_natCast, List.getD_eq_getElem?_getD, List.getD_eq_getElem?_getD, List.getElem?_append_left h]
theorem rd_last (ps : List Int) (x : Int) : rd (ps ++ [x]) (ps.length : Int) = x := by
  unfold rd
  rw [Int.toNat_natCast, List.getD_eq_getElem?_getD, List.getElem?_append_right (Nat.le_refl _)]
  simp
theorem PlanIn.push {ps : List Int} {n d : Int} (h : PlanIn ps d) (h0 : 0 ≤ d) (hd : d < n) : PlanIn (ps ++ [d]) n := fun i hi => by
  rw [List.length_append, List.length_singleton] at hi
  by_cases e : i = ps.length
  · subst e
    rw [rd_last]
    refine ⟨⟨h0, hd⟩, fun j hj => ?_⟩
    rw [rd_app _ _ _ hj]
    exact (h j hj).1.2
  · have hi2 : i < ps.length := by omega
    rw [rd_app _ _ _ hi2]
    refine ⟨⟨(h i hi2).1.1, by have := (h i hi2).1.2; omega⟩, fun j hj => ?_⟩
    rw [rd_app _ _ _ (by omega)]
    exact (h i hi2).2 j hj
theorem PlanIn.up {ps : List Int} {n d : Int} (h : PlanIn ps d) (hd : d ≤ n) : PlanIn ps n := fun i hi => ⟨⟨(h i hi).1.1, by have := (h i hi).1.2; omega⟩, (h i hi).2⟩
theorem plan_loop0 (c : List Int) (hb : BytesIn c) (hc : c.length ≤ 4096) (n : Nat) (hn : n ≤ 8) : ∀ (m i : Nat) (ps : List Int) (at_ sd : Int), i + m = n → ps.length ≤ i → PlanIn ps i → 0 ≤ at_ → at_ ≤ i →
    ∃ qs, Evn (fun k => spec_P6Plan.l0 k n ps i c at_ sd) qs ∧ PlanIn qs n ∧ qs.length ≤ n := by
  intro m
  induction m with
  | zero =>
    intro i ps at_ sd hi hl hp _ _
    refine ⟨ps, Evn.succ ?_, hp.up (by omega), by omega⟩
    simp only [spec_P6Plan.l0]
    exact Evn.neg (by omega) (Evn.now _)
  | succ m ih =>
    intro i ps at_ sd hi hl hp h0 h1
    obtain ⟨o, a, s, e, g0, g1⟩ := one_is c hb hc at_ sd 3 h0 (by omega) (by omega)
    have w1 : wrap64 ((i : Int) + 1) = ((i + 1 : Nat) : Int) := by rw [wrap64_in (by omega) (by omega)]; omega
    cases o with
    | true =>
      obtain ⟨qs, h, h2, h3⟩ := ih (i + 1) (ps ++ [(i : Int)]) a s (by omega) (by simp; omega) (hp.push (by omega) (by omega)) (by omega) (by omega)
      refine ⟨qs, Evn.succ ?_, h2, h3⟩
      simp only [spec_P6Plan.l0, e, Option.bind_some, w1]
      exact Evn.pos (by omega) (Evn.pos trivial (Evn.pos (by omega) h))
    | false =>
      obtain ⟨qs, h, h2, h3⟩ := ih (i + 1) ps a s (by omega) (by omega) (hp.up (by omega)) (by omega) (by omega)
      refine ⟨qs, Evn.succ ?_, h2, h3⟩
      simp only [spec_P6Plan.l0, e, Option.bind_some, w1]
      exact Evn.pos (by omega) (Evn.neg (by simp) h)
theorem P6Plan_is (c : List Int) (hb : BytesIn c) (hc : c.length ≤ 4096) (n : Nat) (hn : n ≤ 8) : ∃ qs, Evn (fun k => spec_P6Plan.f k c n) qs ∧ PlanIn qs n ∧ qs.length ≤ n := by
  obtain ⟨qs, h, h2, h3⟩ := plan_loop0 c hb hc n hn n 0 [] 0 0 (by omega) (by simp) (fun i hi => by simp at hi) (by omega) (by omega)
  refine ⟨qs, ?_, h2, h3⟩
  unfold spec_P6Plan.f spec_l00From.f
  simp only [Option.bind_some]
  exact h
end Go.Proofs.YtibpndhcijmhpaaGreatDoor.QG
