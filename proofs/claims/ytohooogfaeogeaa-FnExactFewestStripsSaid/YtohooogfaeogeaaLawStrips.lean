/- Plain laws: FewestStrips. -/
import Derived.Test.YtohooogfaeogeaaNums
import Derived.Test.YtohooogfaeogeaaStrips
namespace Go.Proofs.Ytohooogfaeogeaa.QC
set_option linter.unusedSimpArgs false
set_option linter.unusedVariables false
open Go.RowKit Go.Proofs.Ytohooogfaeogeaa.B Go.Proofs.YtohooogfaeogeaaW.PrintWords Go.Proofs.YtohooogfaeogeaaW.PrintLast Go.Proofs.YtohooogfaeogeaaW.PrintMore

theorem line_is (n : Int) : spec_l05Line.f n = some (fine1_ n) := by
  unfold spec_l05Line.f spec_l00In.f fine1_
  by_cases h : 1 ≤ n
  · rw [if_pos h]; simp [h]
  · rw [if_neg h]; simp [h]
theorem drop_one (l : List Int) (i : Nat) (h : i < l.length) : l.drop i = rd l i :: l.drop (i + 1) := by
  rw [List.drop_eq_getElem_cons h]
  unfold rd
  rw [Int.toNat_natCast, List.getD_eq_getElem?_getD, List.getElem?_eq_getElem h]
  rfl
/-- The code. -/
def cutLow (l : List Int) (a : Int) : Int := if (8 : Int) < l.length then 3 else if l.all (fine2_ a) then 0 else 6
def cutCode (l : List Int) (a : Int) : Int := if fine1_ a && l.all fine1_ then cutLow l a else 2
theorem strip_is (l : List Int) (a : Int) (h : l.length ≤ 1048576) : impl_stripCode.f l a = some (cutCode l a) := by
  unfold impl_stripCode.f
  rw [if_pos (by omega)]
  rfl
theorem pieces_low (l : List Int) (a : Int) (hl : l.length ≤ 1048576) : ∀ (n i : Nat), i + n = l.length → Evn (fun k => spec_l05Pieces.l1 k l a i) (if (l.drop i).all (fine2_ a) then 0 else 6) := by
  intro n
  induction n with
  | zero =>
    intro i hi
    refine Evn.succ ?_
    simp only [spec_l05Pieces.l1]
    refine Evn.neg (by omega) ?_
    rw [List.drop_eq_nil_of_le (by omega)]
    exact Evn.now _
  | succ n ih =>
    intro i hi
    have w1 : wrap64 ((i : Int) + 1) = ((i + 1 : Nat) : Int) := by rw [wrap64_in (by omega) (by omega)]; omega
    have h1 := ih (i + 1) (by omega)
    refine Evn.succ ?_
    simp only [spec_l05Pieces.l1]
    refine Evn.pos (by omega) (Evn.pos (by omega) ?_)
    rw [drop_one l i (by omega), List.all_cons]
    by_cases h : rd l i > a
    · have hf : fine2_ a (rd l i) = false := by unfold fine2_; simp; omega
      rw [hf]
      exact Evn.pos h (Evn.now _)
    · have hf : fine2_ a (rd l i) = true := by unfold fine2_; simp; omega
      rw [hf, Bool.true_and]
      refine Evn.neg h ?_
      rw [w1]
      exact h1
theorem pieces_loop (l : List Int) (a : Int) (hl : l.length ≤ 1048576) : ∀ (n i : Nat) (b : Bool), i + n = l.length → Evn (fun k => spec_l05Pieces.l0 k l a b i) (if b && (l.drop i).all fine1_ then cutLow l a else 2) := by
  intro n
  induction n with
  | zero =>
    intro i b hi
    refine Evn.succ ?_
    simp only [spec_l05Pieces.l0]
    refine Evn.neg (by omega) ?_
    rw [List.drop_eq_nil_of_le (by omega)]
    cases b
    · exact Evn.neg (by simp) (Evn.now _)
    · refine Evn.pos rfl ?_
      unfold cutLow
      by_cases h8 : (8 : Int) < l.length
      · rw [if_pos h8]
        exact Evn.pos h8 (Evn.now _)
      · rw [if_neg h8]
        exact Evn.neg h8 (pieces_low l a hl l.length 0 (by omega))
  | succ n ih =>
    intro i b hi
    have w1 : wrap64 ((i : Int) + 1) = ((i + 1 : Nat) : Int) := by rw [wrap64_in (by omega) (by omega)]; omega
    refine Evn.succ ?_
    simp only [spec_l05Pieces.l0]
    refine Evn.pos (by omega) ?_
    rw [drop_one l i (by omega), List.all_cons, w1]
    cases b
    · exact Evn.neg (by simp) (ih (i + 1) false (by omega))
    · refine Evn.pos rfl (Evn.pos (by omega) (Evn.bind (Evn.of (line_is _)) ?_))
      exact ih (i + 1) _ (by omega)
theorem pieces (l : List Int) (a : Int) (hl : l.length ≤ 1048576) : Evn (fun k => spec_l05Pieces.f k l a) (cutCode l a) := by
  unfold spec_l05Pieces.f
  exact Evn.bind (Evn.of (line_is _)) (pieces_loop l a hl l.length 0 _ (by omega))
theorem rd_snocs (l : List Int) (j : Nat) (h : j < l.length) : rd l (j : Int) ∈ l := by
  unfold rd
  rw [Int.toNat_natCast, List.getD_eq_getElem?_getD, List.getElem?_eq_getElem h]
  exact List.getElem_mem h
theorem rd_set (l : List Int) (i j : Nat) (v : Int) (hi : i < l.length) : rd (l.set i v) (j : Int) = if i = j then v else rd l (j : Int) := by
  unfold rd
  rw [Int.toNat_natCast, List.getD_eq_getElem?_getD, List.getD_eq_getElem?_getD, List.getElem?_set]
  by_cases h : i = j
  · subst h; simp [hi]
  · simp [h]
/-- What the reference's search answers. -/
def ansS : Option (List Int × Int) → List Int × Bool
  | some x => (x.1, true)
  | none => ([], false)
/-- What begins with one more number. -/
def nextS (ws : List Int) (strip : Int) (d : Nat) (L : List Int) (g : Int) (o : Int) : List (List Int × Int) := if sumG ws (L ++ [o]) o ≤ strip then solS ws strip d (L ++ [o]) (max g (o + 1)) else []
theorem own_is (l : List Int) (h : l.length ≤ 1000) : spec_l00Own.f l = some l := by
  unfold spec_l00Own.f
  simp only [Option.bind_some, List.length_nil, Nat.zero_add, List.nil_append]
  exact if_pos (by omega)
theorem max_is (a b : Int) : spec_l00Max.f a b = some (max a b) := by
  unfold spec_l00Max.f
  by_cases h : a > b
  · rw [if_pos h]; congr 1; omega
  · rw [if_neg h]; congr 1; omega
theorem fit_is (ws : List Int) (hw : ∀ x ∈ ws, 0 ≤ x ∧ x ≤ 5000) (h8 : ws.length ≤ 8) (strip : Int) (s0 : 0 ≤ strip) (s1 : strip ≤ 5000) (n : Nat) (hn : n ≤ 8) : ∀ (d : Nat) (L : List Int) (g : Nat) (left : List Int), L.length + d = ws.length → g ≤ L.length → g ≤ n → left.length = n → (∀ k : Nat, k < n → rd left k = strip - sumG ws L k) →
    Evn (fun k => spec_l05Fit.f k ws left L g) (ansS ((solS ws strip d L g).find? (fun x => decide (x.2 ≤ (n : Int))))) := by
  intro d
  induction d with
  | zero =>
    intro L g left hd hg hgn hl hk
    refine Evn.succ ?_
    simp only [spec_l05Fit.f]
    refine Evn.pos (by omega) ?_
    have e : ansS ((solS ws strip 0 L g).find? (fun x => decide (x.2 ≤ (n : Int)))) = (L, true) := by
      rw [solS, List.find?_cons_of_pos (by simp; omega)]
      rfl
    rw [e]
    exact Evn.now _
  | succ d ih =>
    intro L g left hd hg hgn hl hk
    have loop : ∀ (m k : Nat), k + m = g + 1 → Evn (fun K => spec_l05Fit.l0 K ws left L g L.length k) (ansS (((ups m k).flatMap (nextS ws strip d L g)).find? (fun x => decide (x.2 ≤ (n : Int))))) := by
      intro m
      induction m with
      | zero =>
        intro k hm
        refine Evn.succ ?_
        simp only [spec_l05Fit.l0]
        refine Evn.neg (by omega) (Evn.succ ?_)
        simp only [spec_l05Fit.j1]
        exact Evn.neg (by simp) (Evn.now _)
      | succ m ihm =>
        intro k hm
        have hrest := ihm (k + 1) (by omega)
        have ek : ((k + 1 : Nat) : Int) = (k : Int) + 1 := by omega
        rw [ek] at hrest
        have w1 : wrap64 ((k : Int) + 1) = (k : Int) + 1 := wrap64_in (by omega) (by omega)
        rw [ups, List.flatMap_cons, List.find?_append]
        obtain ⟨rest, hre⟩ : ∃ rest, ((ups m ((k : Int) + 1)).flatMap (nextS ws strip d L g)) = rest := ⟨_, rfl⟩
        refine Evn.succ ?_
        simp only [spec_l05Fit.l0]
        refine Evn.pos (by omega) (Evn.succ ?_)
        simp only [spec_l05Fit.j1]
        by_cases hkn : k < n
        · have hd1 : decide ((k : Int) < (left.length : Int)) = true := decide_eq_true (by omega)
          rw [hd1]
          have hwi := hw _ (rd_snocs ws L.length (by omega))
          have hsum := sumG_in ws L k hw
          have hsn := sumG_snoc ws L k k (by omega)
          rw [if_pos rfl] at hsn
          have hrw : ws.getD L.length 0 = rd ws (L.length : Int) := by unfold rd; rw [Int.toNat_natCast]
          rw [hrw] at hsn
          have hlk := hk k hkn
          refine Evn.pos (by first | rfl | trivial) (Evn.pos (by omega) (Evn.pos (by omega) (Evn.pos (by omega) (Evn.pos (by omega) ?_))))
          simp only [w1]
          by_cases hgt : rd ws (L.length : Int) > rd left (k : Int)
          · have hne : nextS ws strip d L g k = [] := by unfold nextS; rw [if_neg (by omega)]
            rw [hne, List.find?_nil, Option.none_or]
            exact Evn.pos hgt hrest
          · have hne : nextS ws strip d L g k = solS ws strip d (L ++ [(k : Int)]) (max g (k + 1) : Nat) := by
              have em : ((max g (k + 1) : Nat) : Int) = max (g : Int) ((k : Int) + 1) := by omega
              unfold nextS
              rw [if_pos (by omega), em]
            rw [hne]
            have w2 : wrap64 (rd left (k : Int) - rd ws (L.length : Int)) = rd left (k : Int) - rd ws (L.length : Int) := wrap64_in (by omega) (by omega)
            have hkt : ((k : Int)).toNat = k := Int.toNat_natCast k
            have hin := ih (L ++ [(k : Int)]) (max g (k + 1)) (left.set k (rd left (k : Int) - rd ws (L.length : Int))) (by simp; omega) (by simp; omega) (by omega) (by rw [List.length_set]; exact hl) (fun j hj => by
              rw [rd_set _ _ _ _ (by omega), sumG_snoc ws L k j (by omega), hrw]
              by_cases e : k = j
              · subst e
                rw [if_pos rfl, if_pos rfl]
                omega
              · rw [if_neg e, if_neg (by omega), hk j hj]
                omega)
            refine Evn.neg hgt ?_
            simp only [own_is left (by omega), own_is L (by omega), max_is, Option.bind_some, w2, hkt]
            have em : ((max g (k + 1) : Nat) : Int) = max (g : Int) ((k : Int) + 1) := by omega
            rw [em] at hin
            refine Evn.pos (by omega) (Evn.pos (by omega) (Evn.bind hin ?_))
            rw [em]
            cases hf : (solS ws strip d (L ++ [(k : Int)]) (max (g : Int) ((k : Int) + 1))).find? (fun x => decide (x.2 ≤ (n : Int))) with
            | some x => exact Evn.pos rfl (Evn.now _)
            | none =>
              rw [Option.none_or]
              exact Evn.neg (by simp [ansS]) hrest
        · have hd1 : decide ((k : Int) < (left.length : Int)) = false := decide_eq_false (by omega)
          rw [hd1]
          have hall : ∀ (o : Int), (k : Int) ≤ o → (nextS ws strip d L g o).find? (fun x => decide (x.2 ≤ (n : Int))) = none := by
            intro o ho
            rw [List.find?_eq_none]
            intro x hx
            unfold nextS at hx
            split at hx
            · have := (solS_ge ws strip _ _ _ _ hx).1
              simp
              omega
            · cases hx
          have h2 : ((ups m ((k : Int) + 1)).flatMap (nextS ws strip d L g)).find? (fun x => decide (x.2 ≤ (n : Int))) = none := by
            rw [List.find?_eq_none]
            intro x hx
            obtain ⟨o, ho, hx⟩ := List.mem_flatMap.1 hx
            have ho2 := (ups_mem _ _ _).1 ho
            exact (List.find?_eq_none.1 (hall o (by omega))) x hx
          rw [hall k (Int.le_refl _), h2]
          exact Evn.neg (by simp) (Evn.now _)
    have h0 := loop (g + 1) 0 (by omega)
    have es : solS ws strip (d + 1) L g = (ups (g + 1) ((0 : Nat) : Int)).flatMap (nextS ws strip d L g) := by
      have e : ((g : Int) + 1).toNat = g + 1 := by omega
      rw [solS, e]
      rfl
    rw [es]
    refine Evn.succ ?_
    simp only [spec_l05Fit.f]
    exact Evn.neg (by omega) h0
theorem fill_is (ws : List Int) (strip : Int) (n : Nat) (hn : n ≤ 8) (R : List Int × Int × Int) (hR : ∀ left : List Int, left.length = n → (∀ k : Nat, k < n → rd left k = strip) → Evn (fun k => (spec_l05Fit.f k ws left [] 0).bind fun b => if b.2 = true then (some (b.1, (n : Int), 0)) else spec_FewestStrips.l0 k ws strip (wrap64 ((n : Int) + 1))) R) :
    ∀ (m i : Nat) (left : List Int), i + m = n → left.length = n → (∀ k : Nat, k < i → rd left k = strip) → Evn (fun k => spec_FewestStrips.l1 k ws strip n left i) R := by
  intro m
  induction m with
  | zero =>
    intro i left hi hl hk
    refine Evn.succ ?_
    simp only [spec_FewestStrips.l1]
    exact Evn.neg (by omega) (hR left hl (fun k hk2 => hk k (by omega)))
  | succ m ih =>
    intro i left hi hl hk
    have w1 : wrap64 ((i : Int) + 1) = ((i + 1 : Nat) : Int) := by rw [wrap64_in (by omega) (by omega)]; omega
    have h1 := ih (i + 1) (left.set i strip) (by omega) (by rw [List.length_set]; exact hl) (fun k hk2 => by
      rw [rd_set _ _ _ _ (by omega)]
      by_cases e : i = k
      · rw [if_pos e]
      · rw [if_neg e]; exact hk k (by omega))
    refine Evn.succ ?_
    simp only [spec_FewestStrips.l1, w1, Int.toNat_natCast]
    exact Evn.pos (by omega) (Evn.pos (by omega) (Evn.pos (by omega) h1))
theorem spec_is (ws : List Int) (hw : ∀ x ∈ ws, 0 ≤ x ∧ x ≤ 5000) (h8 : ws.length ≤ 8) (strip : Int) (s0 : 0 ≤ strip) (s1 : strip ≤ 5000) (hs : ∀ x ∈ ws, x ≤ strip) : ∀ (m n : Nat), (n : Int) + m = (bestS ws strip).2 → Evn (fun k => spec_FewestStrips.l0 k ws strip n) ((bestS ws strip).1, (bestS ws strip).2, 0) := by
  obtain ⟨b0, b1, b2, b3, b4⟩ := bestS_is ws strip hs
  have one : ∀ n : Nat, n ≤ 8 → ∀ left : List Int, left.length = n → (∀ k : Nat, k < n → rd left k = strip) → Evn (fun k => spec_l05Fit.f k ws left [] 0) (ansS ((solS ws strip ws.length [] 0).find? (fun x => decide (x.2 ≤ (n : Int))))) := by
    intro n hn left hl hk
    exact fit_is ws hw h8 strip s0 s1 n hn ws.length [] 0 left (by simp) (by simp) (by omega) hl (fun k hk2 => by rw [hk k hk2, sumG_nil]; omega)
  intro m
  induction m with
  | zero =>
    intro n hm
    refine Evn.succ ?_
    simp only [spec_FewestStrips.l0, Int.toNat_natCast]
    refine Evn.pos (by omega) (Evn.pos (by omega) (fill_is ws strip n (by omega) _ (fun left hl hk => ?_) n 0 _ (by omega) (by simp) (fun k hk => by omega)))
    have h := one n (by omega) left hl hk
    rw [show ((n : Nat) : Int) = (bestS ws strip).2 by omega, b3] at h
    refine Evn.bind h (Evn.pos rfl ?_)
    rw [show ((n : Nat) : Int) = (bestS ws strip).2 by omega]
    exact Evn.now _
  | succ m ih =>
    intro n hm
    refine Evn.succ ?_
    simp only [spec_FewestStrips.l0, Int.toNat_natCast]
    refine Evn.pos (by omega) (Evn.pos (by omega) (fill_is ws strip n (by omega) _ (fun left hl hk => ?_) n 0 _ (by omega) (by simp) (fun k hk => by omega)))
    have h := one n (by omega) left hl hk
    rw [b4 n (by omega)] at h
    have w1 : wrap64 ((n : Int) + 1) = ((n + 1 : Nat) : Int) := by rw [wrap64_in (by omega) (by omega)]; omega
    refine Evn.bind h (Evn.neg (by simp [ansS]) ?_)
    rw [w1]
    exact ih (n + 1) (by omega)
theorem few_both (l : List Int) (a : Int) (hl : l.length ≤ 1048576) : ∃ r q c, r.length ≤ 1048576 ∧ Evn (fun k => spec_FewestStrips.f k l a) (r, q, c) ∧ Evn (fun k => impl_FewestStrips.f k l a) (r, q, c) := by
  unfold spec_FewestStrips.f impl_FewestStrips.f
  have hp := pieces l a hl
  have hs := strip_is l a hl
  by_cases h0 : cutCode l a = 0
  · have hc := h0
    unfold cutCode at hc
    by_cases hf : (fine1_ a && l.all fine1_) = true
    case neg => rw [if_neg hf] at hc; cases hc
    rw [if_pos hf] at hc
    unfold cutLow at hc
    by_cases h8 : (8 : Int) < l.length
    · rw [if_pos h8] at hc; cases hc
    rw [if_neg h8] at hc
    by_cases h2 : l.all (fine2_ a) = true
    case neg => rw [if_neg h2] at hc; cases hc
    rw [Bool.and_eq_true] at hf
    obtain ⟨fa, fl⟩ := hf
    unfold fine1_ at fa
    simp only [Bool.and_eq_true, decide_eq_true_eq] at fa
    have hw : ∀ x ∈ l, 0 ≤ x ∧ x ≤ 5000 := fun x hx => by
      have := List.all_eq_true.1 fl x hx
      unfold fine1_ at this
      simp only [Bool.and_eq_true, decide_eq_true_eq] at this
      omega
    have hx : ∀ x ∈ l, x ≤ a := fun x hx => by
      have := List.all_eq_true.1 h2 x hx
      unfold fine2_ at this
      simp at this
      omega
    obtain ⟨b0, b1, b2, _, _⟩ := bestS_is l a hx
    refine ⟨_, _, 0, by rw [b2]; exact hl, Evn.bind hp (Evn.pos h0 (spec_is l hw (by omega) a (by omega) fa.2 hx (bestS l a).2.toNat 0 (by omega))), Evn.bind (Evn.of hs) (Evn.pos h0 (Evn.pos ⟨by omega, ?_⟩ (Evn.now _)))⟩
    rw [List.all_eq_true]
    intro x hx
    have := hw x hx
    simp [this.1, this.2]
  · exact ⟨[], 0, cutCode l a, by simp, Evn.bind hp (Evn.neg h0 (Evn.now _)), Evn.bind (Evn.of hs) (Evn.neg h0 (Evn.now _))⟩
theorem fewestStrips (l : List Int) (a : Int) : ∃ k, laws_FnExactFewestStrips.f k l a = some true := by
  refine Evn.ex ?_
  unfold laws_FnExactFewestStrips.f
  by_cases h : (l.length : Int) > 1048576
  · exact Evn.pos h (Evn.now _)
  refine Evn.neg h ?_
  have hl : l.length ≤ 1048576 := by omega
  obtain ⟨r, q, c, hr, e1, e2⟩ := few_both l a hl
  have ht := toI l hl
  have hq := eqI r hr
  obtain ⟨ys, m1, m2⟩ := markI l hl
  obtain ⟨zs, z1, z2⟩ := markI r hr
  refine Evn.bind ht (Evn.bind e1 (Evn.bind ht (Evn.bind e2 (Evn.bind hq (Evn.pos rfl (Evn.pos rfl ?_))))))
  refine Evn.succ ?_
  simp only [laws_FnExactFewestStrips.j0]
  refine Evn.neg (by simp) (Evn.bind ht (Evn.bind (eqI l hl) (Evn.pos (by simp) (Evn.bind m1 (Evn.neg (by simp; omega) (Evn.bind hq (Evn.pos (by simp) (Evn.pos (by simp) ?_))))))))
  refine Evn.succ ?_
  simp only [laws_FnExactFewestStrips.j1]
  refine Evn.neg (by simp) (Evn.bind z1 (Evn.bind z2 (Evn.neg (by omega) (Evn.pos (by simp) (Evn.bind ht (Evn.bind e2 (Evn.bind hq (Evn.pos (by simp) (Evn.pos (by simp) ?_)))))))))
  refine Evn.succ ?_
  simp only [laws_FnExactFewestStrips.j2]
  exact Evn.neg (by simp) (Evn.bind z2 (Evn.neg (by omega) (Evn.pos (by simp) (Evn.now _))))
end Go.Proofs.Ytohooogfaeogeaa.QC
namespace Go.Proofs.Ytohooogfaeogeaa.Pure
open Go.RowKit Go.Proofs.Ytohooogfaeogeaa.QC
theorem FnExactFewestStrips : laws_FnExactFewestStrips.Pure := fun l a _ _ _ _ => fewestStrips l a
end Go.Proofs.Ytohooogfaeogeaa.Pure
