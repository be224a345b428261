/- Plain laws: pieces shared out to strips, all ways in order; the first way with the fewest strips. -/
import Derived.Test.YtohooogfaeogeaaEv
namespace Go.Proofs.Ytohooogfaeogeaa.B
set_option linter.unusedSimpArgs false
set_option linter.unusedVariables false

/-- What a group holds. -/
def sumG : List Int → List Int → Int → Int
  | w :: ws, l :: L, k => (if l = k then w else 0) + sumG ws L k
  | _, _, _ => 0
/-- The numbers from o on, so many. -/
def ups : Nat → Int → List Int
  | 0, _ => []
  | n + 1, o => o :: ups n (o + 1)
/-- One behind the other. -/
def forS {α : Type} (f : Int → α → α) : Nat → Int → α → α
  | 0, _, s => s
  | n + 1, o, s => forS f n (o + 1) (f o s)
/-- The better of two. -/
def pickS (s x : List Int × Int) : List Int × Int := if x.2 < s.2 then x else s
/-- What the search leaves. -/
def tryS (ws : List Int) (strip : Int) : Nat → List Int → Int → List Int × Int → List Int × Int
  | 0, L, g, s => pickS s (L, g)
  | d + 1, L, g, s => forS (fun o s => if sumG ws (L ++ [o]) o ≤ strip then tryS ws strip d (L ++ [o]) (max g (o + 1)) s else s) (g + 1).toNat 0 s
/-- All ways, in order. -/
def solS (ws : List Int) (strip : Int) : Nat → List Int → Int → List (List Int × Int)
  | 0, L, g => [(L, g)]
  | d + 1, L, g => (ups (g + 1).toNat 0).flatMap fun o => if sumG ws (L ++ [o]) o ≤ strip then solS ws strip d (L ++ [o]) (max g (o + 1)) else []
theorem sumG_nil (ws : List Int) (k : Int) : sumG ws [] k = 0 := by cases ws <;> rfl
theorem sumG_snoc : ∀ (ws L : List Int) (o k : Int), L.length < ws.length → sumG ws (L ++ [o]) k = sumG ws L k + (if o = k then ws.getD L.length 0 else 0)
  | [], L, _, _, h => absurd h (by simp)
  | w :: ws, [], o, k, _ => by
    rw [List.nil_append, sumG_nil]
    show (if o = k then w else 0) + sumG ws [] k = _
    rw [sumG_nil]
    simp
  | w :: ws, l :: L, o, k, h => by
    have := sumG_snoc ws L o k (by simpa using h)
    show (if l = k then w else 0) + sumG ws (L ++ [o]) k = (if l = k then w else 0) + sumG ws L k + _
    rw [this]
    simp
    omega
theorem sumG_in : ∀ (ws L : List Int) (k : Int), (∀ w ∈ ws, 0 ≤ w ∧ w ≤ 5000) → 0 ≤ sumG ws L k ∧ sumG ws L k ≤ 5000 * ws.length
  | [], L, k, _ => by cases L <;> simp [sumG]
  | w :: ws, [], k, _ => by simp [sumG]; omega
  | w :: ws, l :: L, k, h => by
    have h1 := sumG_in ws L k (fun x hx => h x (List.mem_cons_of_mem _ hx))
    have h2 := h w List.mem_cons_self
    simp only [sumG, List.length_cons]
    split <;> omega
theorem sumG_none : ∀ (ws L : List Int) (k : Int), (∀ l ∈ L, l < k) → sumG ws L k = 0
  | [], L, k, _ => by cases L <;> rfl
  | w :: ws, [], k, _ => rfl
  | w :: ws, l :: L, k, h => by
    have h1 := sumG_none ws L k (fun x hx => h x (List.mem_cons_of_mem _ hx))
    have h2 := h l List.mem_cons_self
    simp only [sumG]
    rw [if_neg (by omega), h1]
    rfl
theorem forS_fold {α : Type} (f : Int → α → α) : ∀ (n : Nat) (o : Int) (s : α), forS f n o s = (ups n o).foldl (fun s o => f o s) s
  | 0, _, _ => rfl
  | n + 1, o, s => forS_fold f n (o + 1) (f o s)
theorem foldl_flatMap_ {α β γ : Type} (p : γ → β → γ) (h : α → List β) : ∀ (l : List α) (s : γ), (l.flatMap h).foldl p s = l.foldl (fun s a => (h a).foldl p s) s
  | [], _ => rfl
  | a :: l, s => by
    rw [List.flatMap_cons, List.foldl_append, foldl_flatMap_ p h l]
    rfl
theorem tryS_is (ws : List Int) (strip : Int) : ∀ (d : Nat) (L : List Int) (g : Int) (s : List Int × Int), tryS ws strip d L g s = (solS ws strip d L g).foldl pickS s
  | 0, _, _, _ => rfl
  | d + 1, L, g, s => by
    rw [tryS, solS, forS_fold, foldl_flatMap_]
    congr 1
    funext s o
    split
    · exact tryS_is ws strip d _ _ _
    · rfl
theorem ups_mem : ∀ (n : Nat) (o x : Int), x ∈ ups n o ↔ o ≤ x ∧ x < o + n
  | 0, o, x => by simp [ups]
  | n + 1, o, x => by
    rw [ups, List.mem_cons, ups_mem n (o + 1) x]
    omega
/-- Groups never go. -/
theorem solS_ge (ws : List Int) (strip : Int) : ∀ (d : Nat) (L : List Int) (g : Int) (x : List Int × Int), x ∈ solS ws strip d L g → g ≤ x.2 ∧ x.1.length = L.length + d
  | 0, L, g, x, h => by
    obtain rfl := List.mem_singleton.1 h
    exact ⟨Int.le_refl _, rfl⟩
  | d + 1, L, g, x, h => by
    obtain ⟨o, _, h2⟩ := List.mem_flatMap.1 h
    split at h2
    · have := solS_ge ws strip d _ _ x h2
      rw [List.length_append, List.length_singleton] at this
      omega
    · cases h2
/-- There is one. -/
theorem solS_one (ws : List Int) (strip : Int) (hw : ∀ w ∈ ws, w ≤ strip) : ∀ (d : Nat) (L : List Int) (g : Int), L.length + d = ws.length → 0 ≤ g → (∀ l ∈ L, l < g) → ∃ x, x ∈ solS ws strip d L g ∧ x.2 ≤ g + d
  | 0, L, g, _, _, _ => ⟨(L, g), List.mem_singleton.2 rfl, by simp⟩
  | d + 1, L, g, h, h0, hl => by
    obtain ⟨x, h1, h2⟩ := solS_one ws strip hw d (L ++ [g]) (max g (g + 1)) (by simp; omega) (by omega) (fun l hl2 => by
      rcases List.mem_append.1 hl2 with h | h
      · have := hl l h; omega
      · obtain rfl := List.mem_singleton.1 h; omega)
    refine ⟨x, List.mem_flatMap.2 ⟨g, (ups_mem _ _ _).2 (by omega), ?_⟩, by omega⟩
    rw [if_pos]
    · exact h1
    · rw [sumG_snoc _ _ _ _ (by omega), sumG_none _ _ _ hl, if_pos rfl]
      have e : ws.getD L.length 0 = ws[L.length]'(by omega) := by
        rw [List.getD_eq_getElem?_getD, List.getElem?_eq_getElem (by omega)]
        rfl
      rw [e]
      have := hw _ (List.getElem_mem (l := ws) (n := L.length) (by omega))
      omega
/-- What the search finds: the first of those with the fewest groups. -/
theorem pick_first : ∀ (S : List (List Int × Int)) (s : List Int × Int), (S.foldl pickS s = s ∧ ∀ x ∈ S, s.2 ≤ x.2) ∨ (S.foldl pickS s ∈ S ∧ (S.foldl pickS s).2 < s.2 ∧ (∀ x ∈ S, (S.foldl pickS s).2 ≤ x.2) ∧ S.find? (fun x => decide (x.2 ≤ (S.foldl pickS s).2)) = some (S.foldl pickS s))
  | [], s => .inl ⟨rfl, fun _ h => by cases h⟩
  | y :: S, s => by
    rw [List.foldl_cons]
    by_cases hy : y.2 < s.2
    · have e : pickS s y = y := by simp [pickS, hy]
      rw [e]
      rcases pick_first S y with ⟨h1, h2⟩ | ⟨h1, h2, h3, h4⟩
      · rw [h1]
        refine .inr ⟨List.mem_cons_self, hy, fun x hx => ?_, by simp⟩
        rcases List.mem_cons.1 hx with rfl | hx
        · exact Int.le_refl _
        · exact h2 x hx
      · refine .inr ⟨List.mem_cons_of_mem _ h1, by omega, fun x hx => ?_, ?_⟩
        · rcases List.mem_cons.1 hx with rfl | hx
          · omega
          · exact h3 x hx
        · rw [List.find?_cons_of_neg (by simp; omega)]
          exact h4
    · have e : pickS s y = s := by simp [pickS, hy]
      rw [e]
      rcases pick_first S s with ⟨h1, h2⟩ | ⟨h1, h2, h3, h4⟩
      · refine .inl ⟨h1, fun x hx => ?_⟩
        rcases List.mem_cons.1 hx with rfl | hx
        · omega
        · exact h2 x hx
      · refine .inr ⟨List.mem_cons_of_mem _ h1, h2, fun x hx => ?_, ?_⟩
        · rcases List.mem_cons.1 hx with rfl | hx
          · omega
          · exact h3 x hx
        · rw [List.find?_cons_of_neg (by simp; omega)]
          exact h4
/-- The answer. -/
def bestS (ws : List Int) (strip : Int) : List Int × Int := tryS ws strip ws.length [] 0 ([], ws.length + 1)
theorem bestS_is (ws : List Int) (strip : Int) (hw : ∀ w ∈ ws, w ≤ strip) :
    0 ≤ (bestS ws strip).2 ∧ (bestS ws strip).2 ≤ ws.length ∧ (bestS ws strip).1.length = ws.length ∧ (solS ws strip ws.length [] 0).find? (fun x => decide (x.2 ≤ (bestS ws strip).2)) = some (bestS ws strip) ∧
      ∀ m : Int, m < (bestS ws strip).2 → (solS ws strip ws.length [] 0).find? (fun x => decide (x.2 ≤ m)) = none := by
  unfold bestS
  rw [tryS_is]
  obtain ⟨x, hx, hx2⟩ := solS_one ws strip hw ws.length [] 0 (by simp) (by omega) (fun _ h => by cases h)
  rcases pick_first (solS ws strip ws.length [] 0) ([], ws.length + 1) with ⟨_, h2⟩ | ⟨h1, h2, h3, h4⟩
  · have := h2 x hx
    simp at this
    omega
  · have g1 := solS_ge ws strip _ _ _ _ h1
    have h5 := h3 x hx
    refine ⟨g1.1, by omega, by simpa using g1.2, h4, fun m hm => ?_⟩
    rw [List.find?_eq_none]
    intro y hy
    have := h3 y hy
    simp
    omega
/-- The indices of a group. -/
def gi : Nat → List Int → Int → List Int
  | _, [], _ => []
  | i, l :: L, k => if l = k then (i : Int) :: gi (i + 1) L k else gi (i + 1) L k
/-- What some pieces are together. -/
def sumI (ws : List Int) : List Int → Int
  | [] => 0
  | i :: l => ws.getD i.toNat 0 + sumI ws l
theorem sumI_gi (ws : List Int) (k : Int) : ∀ (L : List Int) (i : Nat), i + L.length ≤ ws.length → sumI ws (gi i L k) = sumG (ws.drop i) L k
  | [], i, _ => by
    rw [sumG_nil]
    rfl
  | l :: L, i, h => by
    simp at h
    have ih := sumI_gi ws k L (i + 1) (by omega)
    have e : ws.drop i = ws.getD i 0 :: ws.drop (i + 1) := by
      rw [List.drop_eq_getElem_cons (by omega), List.getD_eq_getElem?_getD, List.getElem?_eq_getElem (by omega)]
      rfl
    rw [e]
    simp only [gi, sumG]
    split
    · simp only [sumI, ih, Int.toNat_natCast]
    · rw [ih]; omega
theorem gi_mem (k : Int) : ∀ (L : List Int) (i : Nat) (x : Int), x ∈ gi i L k → (i : Int) ≤ x ∧ x < i + L.length
  | [], _, _, h => by cases h
  | l :: L, i, x, h => by
    simp only [gi] at h
    simp only [List.length_cons]
    split at h
    · rcases List.mem_cons.1 h with rfl | h
      · omega
      · have := gi_mem k L (i + 1) x h; omega
    · have := gi_mem k L (i + 1) x h; omega
theorem gi_len (k : Int) : ∀ (L : List Int) (i : Nat), (gi i L k).length ≤ L.length
  | [], _ => by simp [gi]
  | l :: L, i => by
    have := gi_len k L (i + 1)
    simp only [gi, List.length_cons]
    split <;> simp <;> omega
theorem sumI_in (ws : List Int) (hw : ∀ w ∈ ws, 0 ≤ w ∧ w ≤ 5000) : ∀ l : List Int, 0 ≤ sumI ws l ∧ sumI ws l ≤ 5000 * l.length
  | [] => by simp [sumI]
  | i :: l => by
    have h1 := sumI_in ws hw l
    have h2 : 0 ≤ ws.getD i.toNat 0 ∧ ws.getD i.toNat 0 ≤ 5000 := by
      rw [List.getD_eq_getElem?_getD]
      by_cases h : i.toNat < ws.length
      · rw [List.getElem?_eq_getElem h]
        exact hw _ (List.getElem_mem h)
      · rw [List.getElem?_eq_none (by omega)]
        simp
    simp only [sumI, List.length_cons]
    omega
end Go.Proofs.Ytohooogfaeogeaa.B
