/- Plain laws: the law of grass. -/
import Derived.Test.YtibpndhcijmhpaaGreatDoorGrassS
namespace Go.Proofs.YtibpndhcijmhpaaGreatDoor.QG
set_option linter.unusedSimpArgs false
set_option linter.unusedVariables false
open Go.RowKit Go.Proofs.YtibpndhcijmhpaaGreatDoor.B Go.Proofs.YtibpndhcijmhpaaGreatDoorW.PrintWords Go.Proofs.YtibpndhcijmhpaaGreatDoorW.PrintLast Go.Proofs.YtibpndhcijmhpaaGreatDoorW.PrintMore

theorem day_w {x : S43} (h : DayIn x) : wrap64 x.f0 = x.f0 ∧ wrap64 x.f1 = x.f1 := by
  obtain ⟨⟨a0, a1⟩, b0, b1⟩ := h
  exact ⟨wrap64_in (by omega) (by omega), wrap64_in (by omega) (by omega)⟩
theorem rain_w (xs : List (S43)) (hx : ∀ x ∈ xs, DayIn x) (i k : Nat) (h : i + k ≤ xs.length) (hk : k ≤ 30) (q : i + k < xs.length) : wrap64 (rainM xs i k + (rd_T43 xs ((i + k : Nat) : Int)).f0) = rainM xs i k + (rd_T43 xs ((i + k : Nat) : Int)).f0 := by
  have hr := rain_in xs hx i k h
  have hm := (hx _ (rd_mem xs (i + k) q)).1
  exact wrap64_in (by omega) (by omega)
/-- Days are exchanged back. -/
theorem g_end (code more : List Int) (hcb : BytesIn code) (hmb : BytesIn more) (lc : code.length ≤ 4096) (lm : more.length ≤ 4096) (xs : List (S43)) (hl : xs.length ≤ 8) (hx : ∀ x ∈ xs, DayIn x) (c b q d : Nat) (a_ s_ : Int) (sown : List Int) (r : Int) (h6 : xs.length = 0 → c = 6) : Evn (fun k => laws_FnGrass.l3 k code more xs c b q d a_ s_ sown r xs.length) true := by
  refine Evn.succ ?_
  simp only [laws_FnGrass.l3]
  refine Evn.neg (by omega) ?_
  by_cases h0 : xs.length = 0
  · refine Evn.pos (by omega) ?_
    have e := h6 h0
    subst e
    exact Evn.now _
  · refine Evn.neg (by omega) ?_
    obtain ⟨p, e1, p0, p1⟩ := P6Pick_is more hmb lm (xs.length : Int) (by omega)
    obtain ⟨u, e2, u0, u1⟩ := P6Pick_is code hcb lc (xs.length : Int) (by omega)
    obtain ⟨p, rfl⟩ := Int.eq_ofNat_of_zero_le p0
    obtain ⟨u, rfl⟩ := Int.eq_ofNat_of_zero_le u0
    have hp : p < xs.length := by omega
    have hu : u < xs.length := by omega
    have hy := swap_mem xs p u hp hu hx
    have h1 := iSwap xs hl hx p u hp hu
    have h2 := sSwap xs hl hx p u hp hu
    have h3 := iSwap (swapM xs p u) (by rw [swap_len]; exact hl) hy u p (by rw [swap_len]; exact hu) (by rw [swap_len]; exact hp)
    rw [swap_back xs p u hp hu] at h3
    rw [e1, e2]
    simp only [Option.bind_some]
    refine Evn.bind h1 (Evn.bind h2 (Evn.bind h3 (Evn.pos rfl (Evn.pos rfl (Evn.bind (sameW _ (by rw [swap_len]; omega)) (Evn.pos rfl (Evn.pos rfl (Evn.pos rfl (Evn.bind (sameW xs (by omega)) (Evn.now _))))))))))
/-- What is known when the days are gone through. -/
structure Known (xs : List (S43)) (b q d : Nat) (a_ s_ : Int) (sown : List Int) : Prop where
  hd : 1 ≤ d ∧ d ≤ 30
  hq : ∀ e m, run (dry xs) xs.length e m → m ≤ q
  hb : ∀ e, 0 < q → e < b → ¬ run (dry xs) xs.length e q
  hw : ∀ i : Nat, i + d ≤ xs.length → rainM xs i d ≤ s_ ∧ (rainM xs i d = s_ → a_ ≤ i) ∧ ((i : Int) = a_ → rainM xs i d = s_)
  hs : ∀ i : Nat, decide ((i : Int) ∈ sown) = (decide (i + d ≤ xs.length) && noneB xs 5 10 i d)
  hn : sown.length ≤ 100
theorem g_in (code more : List Int) (xs : List (S43)) (hl : xs.length ≤ 8) (hx : ∀ x ∈ xs, DayIn x) (c b q d : Nat) (a_ s_ : Int) (sown : List Int) (K : Known xs b q d a_ s_ sown) (r : Int) (i : Nat) (hi : i + d ≤ xs.length) (h : Evn (fun k => laws_FnGrass.l3 k code more xs c b q d a_ s_ sown r (wrap64 ((i : Int) + 1))) true) :
    ∀ (m k : Nat), k + m = d → Evn (fun f => laws_FnGrass.l4 f code more xs c b q d a_ s_ sown r i (rainM xs i k) (noneB xs 5 10 i k) k) true := by
  have hd := K.hd
  intro m
  induction m with
  | zero =>
    intro k hk
    obtain rfl : k = d := by omega
    obtain ⟨w1, w2, w3⟩ := K.hw i hi
    have hh := HasNumber_is sown i K.hn
    rw [K.hs i, decide_eq_true hi, Bool.true_and] at hh
    have fin : Evn (fun f => (spec_HasNumber.f f sown i).bind fun t => if (t != noneB xs 5 10 i k) = true then none else laws_FnGrass.l3 f code more xs c b q k a_ s_ sown r (wrap64 ((i : Int) + 1))) true :=
      Evn.bind hh (Evn.neg (by simp) h)
    refine Evn.succ ?_
    simp only [laws_FnGrass.l4]
    refine Evn.neg (by omega) (Evn.neg (by omega) ?_)
    by_cases c1 : rainM xs i k = s_
    · refine Evn.pos c1 (Evn.neg (by have := w2 c1; omega) ?_)
      by_cases c2 : (i : Int) = a_
      · exact Evn.pos c2 fin
      · exact Evn.neg c2 fin
    · refine Evn.neg c1 ?_
      exact Evn.neg (fun e => c1 (w3 e)) fin
  | succ m ih =>
    intro k hk
    have q1 : (k : Int) < (d : Int) := by omega
    have q2 : (0 : Int) ≤ ((i + k : Nat) : Int) := by omega
    have q3 : ((i + k : Nat) : Int) < (xs.length : Int) := by omega
    have q4 : i + k < xs.length := by omega
    have w1 : wrap64 ((i : Int) + k) = ((i + k : Nat) : Int) := by rw [wrap64_in (by omega) (by omega)]; omega
    have w5 := up64 (show k ≤ 1000 by omega)
    have h2 := ih (k + 1) (by omega)
    have hm := hx _ (rd_mem xs (i + k) q4)
    have w4 := rain_w xs hx i k (by omega) (by omega) q4
    obtain ⟨w2, w3⟩ := day_w hm
    rw [noneB_succ] at h2
    unfold poor_ at h2
    rw [w2, w3] at h2
    simp only [rainM] at h2
    refine Evn.succ ?_
    simp only [laws_FnGrass.l4, w1, w2, w4, w5]
    refine Evn.pos q1 (Evn.pos q2 (Evn.pos q3 ?_))
    cases hb : noneB xs 5 10 i k with
    | false =>
      rw [hb, Bool.false_and] at h2
      exact Evn.neg (by simp) h2
    | true =>
      rw [hb, Bool.true_and] at h2
      refine Evn.pos rfl ?_
      by_cases c : (rd_T43 xs ((i + k : Nat) : Int)).f0 ≥ 5
      · rw [decide_eq_false (Int.not_lt.2 c), Bool.false_or] at h2
        have e : (!decide ((rd_T43 xs ((i + k : Nat) : Int)).f1 < 10)) = decide ((rd_T43 xs ((i + k : Nat) : Int)).f1 ≥ 10) := by
          by_cases c2 : (rd_T43 xs ((i + k : Nat) : Int)).f1 ≥ 10
          · rw [decide_eq_true c2, decide_eq_false (Int.not_lt.2 c2)]; rfl
          · rw [decide_eq_false c2, decide_eq_true (Int.not_le.1 c2)]; rfl
        rw [e] at h2
        exact Evn.pos c h2
      · rw [decide_eq_true (Int.not_le.1 c), Bool.true_or] at h2
        exact Evn.neg c h2
theorem g_days (code more : List Int) (hcb : BytesIn code) (hmb : BytesIn more) (lc : code.length ≤ 4096) (lm : more.length ≤ 4096) (xs : List (S43)) (hl : xs.length ≤ 8) (hx : ∀ x ∈ xs, DayIn x) (c b q d : Nat) (a_ s_ : Int) (sown : List Int) (K : Known xs b q d a_ s_ sown) (h6 : xs.length = 0 → c = 6) : ∀ (n i r : Nat), i + n = xs.length → r ≤ i → (∀ j, j < r → dry xs (i - r + j) = true) →
    Evn (fun k => laws_FnGrass.l3 k code more xs c b q d a_ s_ sown r i) true := by
  have hd := K.hd
  intro n
  induction n with
  | zero =>
    intro i r hi _ _
    obtain rfl : i = xs.length := by omega
    exact g_end code more hcb hmb lc lm xs hl hx c b q d a_ s_ sown r h6
  | succ n ih =>
    intro i r hi hr hdry
    have hm := (hx _ (rd_mem xs i (by omega))).1
    have step : ∀ r2 : Nat, r2 ≤ i + 1 → (∀ j, j < r2 → dry xs (i + 1 - r2 + j) = true) → Evn (fun k => laws_FnGrass.j10 k code more xs c b q d a_ s_ sown (r2 : Int) i) true := fun r2 h1 h2 => by
      have hq := K.hq (i + 1 - r2) r2 ⟨by omega, h2⟩
      have hnext := ih (i + 1) r2 (by omega) h1 h2
      have tail : Evn (fun k => laws_FnGrass.j11 k code more xs c b q d a_ s_ sown (r2 : Int) i false) true := by
        refine Evn.succ ?_
        simp only [laws_FnGrass.j11]
        rw [wrap64_in (x := (i : Int) + d) (by omega) (by omega)]
        refine Evn.neg (by simp) ?_
        by_cases c1 : i + d ≤ xs.length
        · refine Evn.neg (by omega) ?_
          have := g_in code more xs hl hx c b q d a_ s_ sown K (r2 : Int) i c1 (by rw [up64 (show i ≤ 1000 by omega)]; exact hnext) d 0 (by omega)
          exact this
        · have hh := HasNumber_is sown i K.hn
          rw [K.hs i, decide_eq_false c1, Bool.false_and] at hh
          rw [up64 (show i ≤ 1000 by omega)]
          exact Evn.pos (by omega) (Evn.bind hh (Evn.neg (by simp) hnext))
      refine Evn.succ ?_
      simp only [laws_FnGrass.j10]
      refine Evn.neg (by omega) ?_
      by_cases c1 : (r2 : Int) = (q : Int)
      · refine Evn.pos c1 ?_
        by_cases c2 : (r2 : Int) > 0
        · refine Evn.pos c2 ?_
          have e : decide ((wrap64 ((wrap64 ((i : Int) - r2)) + 1)) < (b : Int)) = false := by
            rw [wrap64_in (x := (i : Int) - r2) (by omega) (by omega), wrap64_in (by omega) (by omega)]
            refine decide_eq_false fun hlt => ?_
            have e2 : r2 = q := by omega
            subst e2
            exact K.hb (i + 1 - r2) (by omega) (by omega) ⟨by omega, h2⟩
          rw [e]
          exact tail
        · exact Evn.neg c2 tail
      · exact Evn.neg c1 tail
    refine Evn.succ ?_
    simp only [laws_FnGrass.l3]
    refine Evn.pos (by omega) (Evn.pos (by omega) ?_)
    by_cases c1 : (rd_T43 xs i).f0 > 0
    · exact Evn.pos c1 (step 0 (by omega) (fun j hj => by omega))
    · rw [up64 (show r ≤ 1000 by omega)]
      refine Evn.neg c1 (step (r + 1) (by omega) (fun j hj => ?_))
      by_cases e : j = r
      · subst e
        rw [show i + 1 - (j + 1) + j = i by omega]
        unfold dry
        rw [beq_iff_eq]
        omega
      · have := hdry j (by omega)
        rwa [show i + 1 - (r + 1) + j = i - r + j by omega]
/-- Boxes are enough and not too many. -/
theorem g_boxes (code more : List Int) (hcb : BytesIn code) (hmb : BytesIn more) (lc : code.length ≤ 4096) (lm : more.length ≤ 4096) (xs : List (S43)) (hl : xs.length ≤ 8) (hx : ∀ x ∈ xs, DayIn x) (cs : List Int) (hcl : cs.length ≤ 30) (hcs : ∀ c ∈ cs, 0 ≤ c ∧ c ≤ 200) : ∀ (n i : Nat), i + n = cs.length → Evn (fun k => laws_FnGrass.l2 k code more xs cs (cs.map bx) i) true := by
  intro n
  induction n with
  | zero =>
    intro i hi
    obtain ⟨p, e1, p0, p1⟩ := P6Pick_is more hmb lm 4 (by omega)
    obtain ⟨p, rfl⟩ := Int.eq_ofNat_of_zero_le p0
    obtain ⟨b, q, c, hs, hi2, hc, h6, hq, hb⟩ := driest_is xs (by omega) hx
    have wd : wrap64 (1 + (p : Int)) = ((1 + p : Nat) : Int) := by rw [wrap64_in (by omega) (by omega)]; omega
    have hw1 := iWet xs hl hx (1 + p) (by omega) (by omega)
    have hw2 := sWet xs hl hx (1 + p) (by omega) (by omega)
    have hs1 := iSeed xs hl hx (1 + p) (by omega) (by omega)
    have hs2 := sSeed xs hl hx (1 + p) (by omega) (by omega)
    have hlen := seed_len xs (1 + p) (xs.length + 1 - (1 + p))
    have hsame := sameN (seedM xs (1 + p) (xs.length + 1 - (1 + p))) (by omega)
    have K : Known xs b q (1 + p) (wetA xs (1 + p)).1 (wetA xs (1 + p)).2.1 (seedM xs (1 + p) (xs.length + 1 - (1 + p))) := by
      refine ⟨⟨by omega, by omega⟩, hq, hb, fun i hi => ?_, fun i => ?_, by omega⟩
      · have hp := wet_prop xs hx (1 + p) (xs.length + 1 - (1 + p)) (by omega)
        unfold wetA
        rw [if_pos (by omega)]
        exact hp.2.2.2.1 i (by omega)
      · have := seed_mem xs (1 + p) i (xs.length + 1 - (1 + p))
        by_cases c1 : i + (1 + p) ≤ xs.length
        · rw [decide_eq_true c1, Bool.true_and]
          cases e : noneB xs 5 10 i (1 + p) with
          | true => exact decide_eq_true (this.2 ⟨by omega, e⟩)
          | false => exact decide_eq_false fun h => by rw [(this.1 h).2] at e; cases e
        · rw [decide_eq_false c1, Bool.false_and]
          exact decide_eq_false fun h => by have := (this.1 h).1; omega
    have hdays := g_days code more hcb hmb lc lm xs hl hx c b q (1 + p) _ _ _ K h6 xs.length 0 0 (by omega) (by omega) (fun j hj => by omega)
    have hknown : (((wetA xs (1 + p)).2.2 == 0) != (decide (((1 + p : Nat) : Int) ≤ (xs.length : Int)))) = false := by
      unfold wetA
      by_cases c1 : 1 + p ≤ xs.length
      · rw [if_pos c1, decide_eq_true (by omega)]; rfl
      · rw [if_neg c1, decide_eq_false (by omega)]; rfl
    have tail : Evn (fun k => laws_FnGrass.j8 k code more xs c b q ((1 + p : Nat) : Int) (wetA xs (1 + p)).1 (wetA xs (1 + p)).2.1 (seedM xs (1 + p) (xs.length + 1 - (1 + p))) (!true)) true := by
      refine Evn.succ ?_
      simp only [laws_FnGrass.j8]
      exact Evn.neg (by simp) hdays
    refine Evn.succ ?_
    simp only [laws_FnGrass.l2, e1, Option.bind_some, wd]
    refine Evn.neg (by omega) (Evn.bind hi2 (Evn.bind hs (Evn.bind hw1 (Evn.bind hw2 (Evn.bind hs1 (Evn.bind hs2 ?_))))))
    refine Evn.pos rfl (Evn.pos rfl (Evn.pos rfl ?_))
    rcases hc with rfl | rfl
    · exact Evn.pos rfl (Evn.pos rfl (Evn.pos rfl (Evn.pos rfl (Evn.neg (by rw [hknown]; simp) (Evn.pos rfl (Evn.pos rfl (Evn.bind hsame tail)))))))
    · exact Evn.neg (show ¬ ((6 : Nat) : Int) = 0 by decide) (Evn.pos rfl (Evn.pos rfl (Evn.pos rfl (Evn.pos rfl (Evn.neg (by rw [hknown]; simp) (Evn.pos rfl (Evn.pos rfl (Evn.bind hsame tail))))))))
  | succ n ih =>
    intro i hi
    have hm := hcs _ (rdI_mem cs i (by omega))
    have e : rd (cs.map bx) i = bx (rd cs i) := by
      unfold rd
      rw [Int.toNat_natCast, List.getD_eq_getElem?_getD, List.getD_eq_getElem?_getD, List.getElem?_map, List.getElem?_eq_getElem (by omega)]
      rfl
    have h2 := ih (i + 1) (by omega)
    have hbx : bx (rd cs i) = (rd cs i * 30 + 99) / 100 := rfl
    refine Evn.succ ?_
    simp only [laws_FnGrass.l2, e, up64 (show i ≤ 1000 by omega)]
    rw [wrap64_in (x := bx (rd cs i) * 100) (by omega) (by omega), wrap64_in (x := 30 * rd cs i) (by omega) (by omega), wrap64_in (x := 30 * rd cs i + 100) (by omega) (by omega)]
    exact Evn.pos (by omega) (Evn.pos (by omega) (Evn.pos (by rw [List.length_map]; omega) (Evn.neg (by omega) (Evn.neg (by omega) h2))))
theorem g_clips (code more : List Int) (hcb : BytesIn code) (hmb : BytesIn more) (lc : code.length ≤ 4096) (lm : more.length ≤ 4096) (xs : List (S43)) (hl : xs.length ≤ 8) (hx : ∀ x ∈ xs, DayIn x) (cs : List Int) (hcl : cs.length ≤ 30) (hcs : ∀ c ∈ cs, 0 ≤ c ∧ c ≤ 200) : ∀ (n i : Nat), i + n = cs.length → Evn (fun k => laws_FnGrass.l1 k code more xs cs i) true := by
  intro n
  induction n with
  | zero =>
    intro i hi
    have hb := g_boxes code more hcb hmb lc lm xs hl hx cs hcl hcs cs.length 0 (by omega)
    refine Evn.succ ?_
    simp only [laws_FnGrass.l1]
    refine Evn.neg (by omega) (Evn.bind (iBoxes cs hcl hcs) (Evn.bind (sBoxes cs hcl hcs) (Evn.pos rfl (Evn.pos rfl (Evn.bind (sameN _ (by rw [List.length_map]; omega)) (Evn.pos rfl (Evn.succ ?_)))))))
    simp only [laws_FnGrass.j6]
    exact Evn.neg (by simp) hb
  | succ n ih =>
    intro i hi
    have hm := hcs _ (rdI_mem cs i (by omega))
    have h2 := ih (i + 1) (by omega)
    refine Evn.succ ?_
    simp only [laws_FnGrass.l1, up64 (show i ≤ 1000 by omega)]
    exact Evn.pos (by omega) (Evn.pos (by omega) (Evn.neg (by omega) h2))
theorem g_growth (code more : List Int) (hcb : BytesIn code) (hmb : BytesIn more) (lc : code.length ≤ 4096) (lm : more.length ≤ 4096) (xs : List (S43)) (hl : xs.length ≤ 8) (hx : ∀ x ∈ xs, DayIn x) (ps : List Int) (start cut : Int) (hp : ps.length ≤ 8) (hP : PlanIn ps xs.length) (s0 : 0 ≤ start) (s1 : start ≤ 40) (c0 : 0 ≤ cut) (c1 : cut ≤ 20) : ∀ (n i : Nat), i + n = xs.length →
    Evn (fun k => laws_FnGrass.l0 k code more xs ps cut (xs.map gr) (runM cut ps start 0 xs).1 (runM cut ps start 0 xs).2 i) true := by
  have hrun := run_in cut ps c0 xs start 0 hx s0
  have hlen := run_len cut ps xs start 0
  have hcl := clips_len cut ps xs start hP
  intro n
  induction n with
  | zero =>
    intro i hi
    have h := g_clips code more hcb hmb lc lm xs hl hx (runM cut ps start 0 xs).2 (by omega) (fun c hc => by have := hrun.2 c hc; omega) (runM cut ps start 0 xs).2.length 0 (by omega)
    refine Evn.succ ?_
    simp only [laws_FnGrass.l0]
    exact Evn.neg (by omega) h
  | succ n ih =>
    intro i hi
    have hd := hx _ (rd_mem xs i (by omega))
    have hg := gr_in hd
    have h2 := ih (i + 1) (by omega)
    have e : rd (xs.map gr) i = gr (rd_T43 xs i) := by
      rw [rd_get xs i (by omega)]
      unfold rd
      rw [Int.toNat_natCast, List.getD_eq_getElem?_getD, List.getElem?_map, List.getElem?_eq_getElem (by omega)]
      rfl
    refine Evn.succ ?_
    simp only [laws_FnGrass.l0, GrowthOf_is hd, Option.bind_some, e, gr_text hd, bne_self_eq_false]
    refine Evn.pos (by omega) (Evn.pos (by omega) (Evn.pos trivial (Evn.pos (by rw [List.length_map]; omega) (Evn.pos trivial (Evn.succ ?_)))))
    simp only [laws_FnGrass.j4]
    rw [wrap64_in (x := cut + gr (rd_T43 xs i)) (by omega) (by omega), up64 (show i ≤ 1000 by omega)]
    refine Evn.neg (by simp) (Evn.bind (HasNumber_is ps i (by omega)) ?_)
    by_cases c : (i : Int) ∈ ps
    · have hlow := run_low cut ps c0 xs start 0 i hx s0 (by omega) (by simpa using c)
      rw [decide_eq_true c]
      exact Evn.pos rfl (Evn.pos (by omega) (Evn.pos (by omega) (Evn.neg (by omega) h2)))
    · rw [decide_eq_false c]
      exact Evn.neg (by simp) h2
theorem g_sums (code more : List Int) (hcb : BytesIn code) (hmb : BytesIn more) (lc : code.length ≤ 4096) (lm : more.length ≤ 4096) (xs : List (S43)) (hl : xs.length ≤ 8) (hx : ∀ x ∈ xs, DayIn x) (ps : List Int) (start cut : Int) (hp : ps.length ≤ 8) (hP : PlanIn ps xs.length) (s0 : 0 ≤ start) (s1 : start ≤ 40) (c0 : 0 ≤ cut) (c1 : cut ≤ 20) :
    Evn (fun k => laws_FnGrass.j1 k code more xs ps start cut (xs.map gr) (runM cut ps start 0 xs).1 (runM cut ps start 0 xs).2 false) true := by
  have hrun := run_in cut ps c0 xs start 0 hx s0
  have hlen := run_len cut ps xs start 0
  have hcl := clips_len cut ps xs start hP
  have hsum := run_sum cut ps xs start 0
  have h := g_growth code more hcb hmb lc lm xs hl hx ps start cut hp hP s0 s1 c0 c1 xs.length 0 (by omega)
  have hS1 := SumOf_is (runM cut ps start 0 xs).2 (by omega) (fun c hc => by have := hrun.2 c hc; omega)
  have hS2 := SumOf_is (xs.map gr) (by rw [List.length_map]; omega) (fun c hc => by
    obtain ⟨x, hm, rfl⟩ := List.mem_map.1 hc
    have := gr_in (hx x hm)
    omega)
  have j2 : Evn (fun k => laws_FnGrass.j2 k code more xs ps start cut (xs.map gr) (runM cut ps start 0 xs).1 (runM cut ps start 0 xs).2 ((runM cut ps start 0 xs).1.getLastD start)) true := by
    refine Evn.succ ?_
    simp only [laws_FnGrass.j2]
    refine Evn.bind hS1 (Evn.bind hS2 (Evn.pos (by rw [hsum]) h))
  refine Evn.succ ?_
  simp only [laws_FnGrass.j1]
  refine Evn.neg (by simp) ?_
  by_cases c : 0 < (runM cut ps start 0 xs).1.length
  · have w : wrap64 (((runM cut ps start 0 xs).1.length : Int) - 1) = (((runM cut ps start 0 xs).1.length - 1 : Nat) : Int) := by rw [wrap64_in (by omega) (by omega)]; omega
    rw [w, last_rd _ start c]
    exact Evn.pos (by omega) (Evn.pos (by omega) (Evn.pos (by omega) j2))
  · refine Evn.neg (by omega) ?_
    have e : (runM cut ps start 0 xs).1 = [] := List.length_eq_zero_iff.1 (by omega)
    rw [e] at j2 ⊢
    exact j2
theorem grassLaw (code more : List Int) (hcb : BytesIn code) (hmb : BytesIn more) : ∃ k, laws_FnGrass.f k code more = some true := by
  refine Evn.ex ?_
  unfold laws_FnGrass.f laws_f6big.f
  simp only [Option.bind_some]
  by_cases c1 : (code.length : Int) > 4096
  · rw [decide_eq_true c1]
    refine Evn.pos rfl (Evn.succ ?_)
    simp only [laws_FnGrass.j0]
    exact Evn.pos trivial (Evn.now _)
  · rw [decide_eq_false c1]
    refine Evn.neg (by simp) ?_
    by_cases c2 : (more.length : Int) > 4096
    · rw [decide_eq_true c2]
      refine Evn.succ ?_
      simp only [laws_FnGrass.j0]
      exact Evn.pos trivial (Evn.now _)
    · rw [decide_eq_false c2]
      have lc : code.length ≤ 4096 := by omega
      have lm : more.length ≤ 4096 := by omega
      obtain ⟨xs, hW, hl, hx⟩ := P6Weather_is code hcb lc
      obtain ⟨ps, hP0, hP, hp⟩ := P6Plan_is more hmb lm xs.length hl
      obtain ⟨start, e1, s0, s1⟩ := P6Pick_is more hmb lm 40 (by omega)
      obtain ⟨cut, e2, c0, c1⟩ := P6Pick_is code hcb lc 20 (by omega)
      obtain ⟨t, hT, hR⟩ := text_read xs hl hx
      have s2 : start ≤ 200 := by omega
      have c3 : cut ≤ 200 := by omega
      have hp2 : ps.length ≤ 100 := by omega
      have hlen := run_len cut ps xs start 0
      have hcl := clips_len cut ps xs start hP
      have hfin := g_sums code more hcb hmb lc lm xs hl hx ps start cut (by omega) hP s0 (by omega) c0 (by omega)
      refine Evn.succ ?_
      simp only [laws_FnGrass.j0, e1, e2, Option.bind_some]
      refine Evn.neg (by simp) (Evn.bind hW (Evn.bind hP0 (Evn.bind hT (Evn.bind hR (Evn.bind (iGrowth xs (by omega) hx) (Evn.bind (sGrowth xs (by omega) hx) (Evn.bind (iHeights hl hx hp2 hP s0 s2 c0 c3) (Evn.bind (sHeights hl hx hp2 hP s0 s2 c0 c3) (Evn.bind (iClips hl hx hp2 hP s0 s2 c0 c3) (Evn.bind (sClips hl hx hp2 hP s0 s2 c0 c3) ?_))))))))))
      refine Evn.pos rfl (Evn.pos rfl (Evn.bind (sameW xs (by omega)) (Evn.pos rfl (Evn.bind (sameI xs (by omega)) (Evn.pos rfl (Evn.bind (okD xs (by omega) hx) (Evn.pos rfl ?_)))))))
      refine Evn.pos rfl (Evn.pos rfl (Evn.bind (sameN _ (by rw [List.length_map]; omega)) (Evn.pos rfl (Evn.pos rfl (Evn.pos rfl (Evn.bind (sameN _ (by show (runM cut ps start 0 xs).1.length ≤ 100; omega)) (Evn.pos rfl (Evn.pos rfl (Evn.pos rfl (Evn.bind (sameN _ (by show (runM cut ps start 0 xs).2.length ≤ 100; omega)) (Evn.pos rfl ?_)))))))))))
      refine Evn.pos (by rw [List.length_map]) (Evn.pos (by show ((runM cut ps start 0 xs).1.length : Int) = _; omega) ?_)
      have e : (((runM cut ps start 0 xs).2.length : Int) != (ps.length : Int)) = false := bne_eq_false_iff_eq.mpr (by omega)
      rw [e]
      exact hfin
end Go.Proofs.YtibpndhcijmhpaaGreatDoor.QG
