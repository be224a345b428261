/- Plain laws: LooseWay. -/
import Derived.Test.YtlhnjaaapnkgiaaWaysZ
namespace Go.Proofs.Ytlhnjaaapnkgiaa.QZ
set_option linter.unusedSimpArgs false
set_option linter.unusedVariables false
open Go.RowKit Go.Proofs.Ytlhnjaaapnkgiaa.B Go.Proofs.YtlhnjaaapnkgiaaW.PrintWords Go.Proofs.YtlhnjaaapnkgiaaW.PrintLast Go.Proofs.YtlhnjaaapnkgiaaW.PrintMore

/-- One letter more, on a pile of letters (the last one first). -/
def push : List Int → Int → List Int
  | [], b => [b]
  | a :: t, b => if letter a + letter b = 3 then t else b :: a :: t
/-- No two letters that stand side by side go to and fro. -/
def NoAdj (L : List Int) : Prop := ∀ (j : Nat) (a b : Int), L[j]? = some a → L[j + 1]? = some b → letter a + letter b ≠ 3
theorem NoAdj.pre {P Q : List Int} (h : NoAdj (P ++ Q)) : NoAdj P := fun j a b h1 h2 =>
  h j a b (by rw [List.getElem?_append_left (List.getElem?_eq_some_iff.1 h1).1]; exact h1) (by rw [List.getElem?_append_left (List.getElem?_eq_some_iff.1 h2).1]; exact h2)
theorem push_all : ∀ (L rs : List Int), NoAdj (rs.reverse ++ L) → L.foldl push rs = L.reverse ++ rs := by
  intro L
  induction L with
  | nil => intro rs _; rfl
  | cons b t ih =>
    intro rs h
    have e : push rs b = b :: rs := by
      cases rs with
      | nil => rfl
      | cons a r =>
        have := h r.length a b (by simp) (by simp)
        simp only [push, if_neg this]
    rw [List.foldl_cons, e, ih (b :: rs) (by simpa using h)]
    simp
theorem push_pair {P Q : List Int} {a b : Int} (h : NoAdj (P ++ [a])) (hab : letter a + letter b = 3) : (P ++ a :: b :: Q).foldl push [] = (P ++ Q).foldl push [] := by
  have h1 : P.foldl push [] = P.reverse := by have := push_all P [] (by simpa using h.pre); simpa using this
  have h2 : push P.reverse a = a :: P.reverse := by
    have := push_all (P ++ [a]) [] (by simpa using h)
    rw [List.foldl_append, h1] at this
    simpa using this
  rw [List.foldl_append, List.foldl_append, h1, List.foldl_cons, List.foldl_cons, h2]
  simp only [push, if_pos hab]

/-- The bytes of a string, as numbers. -/
def bytes (s : ByteArray) : List Int := s.data.toList.map fun u => (u.toNat : Int)
theorem bytes_len (s : ByteArray) : (bytes s).length = s.size := by
  unfold bytes
  rw [List.length_map, Array.length_toList]
  rfl
theorem bytes_at (s : ByteArray) (i : Nat) (h : i < s.size) : (bytes s)[i]? = some (bt s i) := by
  unfold bytes bt
  rw [List.getElem?_map, dif_pos (by simpa using h)]
  have h2 : i < s.data.toList.length := by rw [Array.length_toList]; exact h
  rw [List.getElem?_eq_getElem h2]
  simp
  rfl
theorem nums_bytes (s : ByteArray) : strOfNums (bytes s) = s := by
  apply ByteArray.ext
  apply Array.toList_inj.1
  unfold strOfNums bytes
  rw [List.map_map]
  have e : ((fun n : Int => UInt8.ofNat n.toNat) ∘ fun u : UInt8 => (u.toNat : Int)) = id := by
    funext u
    simp
  rw [e, List.map_id]
theorem bytes_cut (s : ByteArray) (i j : Nat) : bytes (s.extract 0 i ++ s.extract j s.size) = (bytes s).take i ++ (bytes s).drop j := by
  unfold bytes
  rw [ByteArray.data_append, Array.toList_append, List.map_append]
  simp only [ByteArray.data_extract, Array.toList_extract, List.extract_eq_take_drop, List.map_take, List.map_drop]
  congr 1
  rw [List.take_of_length_le]
  rw [List.length_drop, List.length_map, Array.length_toList]
  exact Nat.le_refl _

theorem sLoose : ∀ (N : Nat) (x : ByteArray), x.size ≤ N → x.size ≤ 200 → ∀ (m i : Nat), i + m = x.size → NoAdj ((bytes x).take (i + 1)) →
    ∃ y, Evn (fun k => spec_LooseWay.l0 k x i) (y, 0) ∧ bytes y = ((bytes x).foldl push []).reverse := by
  intro N
  induction N with
  | zero =>
    intro x hx hs m i hi hn
    refine ⟨x, Evn.succ ?_, ?_⟩
    · simp only [spec_LooseWay.l0]
      rw [wrap64_in (x := (i : Int) + 1) (by omega) (by omega)]
      exact Evn.neg (by omega) (Evn.now _)
    · have e : bytes x = [] := List.eq_nil_of_length_eq_zero (by rw [bytes_len]; omega)
      rw [e]; rfl
  | succ N ihN =>
    intro x hx hs m
    induction m with
    | zero =>
      intro i hi hn
      refine ⟨x, Evn.succ ?_, ?_⟩
      · simp only [spec_LooseWay.l0]
        rw [wrap64_in (x := (i : Int) + 1) (by omega) (by omega)]
        exact Evn.neg (by omega) (Evn.now _)
      · rw [List.take_of_length_le (by rw [bytes_len]; omega)] at hn
        have := push_all (bytes x) [] (by simpa using hn)
        rw [this]; simp
    | succ m ih =>
      intro i hi hn
      have w1 : wrap64 ((i : Int) + 1) = ((i + 1 : Nat) : Int) := by rw [wrap64_in (by omega) (by omega)]; omega
      have w2 : wrap64 ((i : Int) + 2) = ((i + 2 : Nat) : Int) := by rw [wrap64_in (by omega) (by omega)]; omega
      by_cases hlt : i + 1 < x.size
      · have l1 := letter_in (bt x i)
        have l2 := letter_in (bt x ((i + 1 : Nat) : Int))
        have g1 := bytes_at x i (by omega)
        have g2 := bytes_at x (i + 1) hlt
        have w3 : wrap64 (letter (bt x i) + letter (bt x ((i + 1 : Nat) : Int))) = letter (bt x i) + letter (bt x ((i + 1 : Nat) : Int)) := wrap64_in (by omega) (by omega)
        by_cases h3 : letter (bt x i) + letter (bt x ((i + 1 : Nat) : Int)) = 3
        · have hsz : (x.extract 0 i ++ x.extract (i + 2) x.size).size = x.size - 2 := by
            rw [← bytes_len, bytes_cut, List.length_append, List.length_take, List.length_drop, bytes_len]; omega
          obtain ⟨y, e1, e2⟩ := ihN (x.extract 0 i ++ x.extract (i + 2) x.size) (by omega) (by omega) (x.size - 2) 0 (by omega) (by
            intro j a b j1 j2
            have := (List.getElem?_eq_some_iff.1 j2).1
            simp at this
            omega)
          have s1 : (x.extract 0 i).size = i := by simp [ByteArray.size_extract]; omega
          have s2 : (x.extract (i + 2) x.size).size = x.size - (i + 2) := by simp [ByteArray.size_extract]
          refine ⟨y, Evn.succ ?_, ?_⟩
          · simp only [spec_LooseWay.l0, w1, w2, Int.toNat_natCast]
            refine Evn.pos (by omega) (Evn.pos (by omega) (Evn.pos (by omega) (Evn.bind (sLetter _) (Evn.pos (by omega) (Evn.bind (sLetter _) ?_)))))
            exact Evn.pos (by rw [w3]; exact h3) (Evn.pos (by omega) (Evn.pos (by omega) (Evn.pos (by omega) (Evn.pos (by omega) e1))))
          · rw [e2, bytes_cut]
            have hL : bytes x = (bytes x).take i ++ bt x i :: bt x ((i + 1 : Nat) : Int) :: (bytes x).drop (i + 2) := by
              conv => lhs; rw [← List.take_append_drop i (bytes x)]
              congr 1
              rw [List.drop_eq_getElem_cons (by rw [bytes_len]; omega), List.drop_eq_getElem_cons (by rw [bytes_len]; omega)]
              rw [List.getElem?_eq_getElem (by rw [bytes_len]; omega)] at g1 g2
              rw [Option.some.inj g1, Option.some.inj g2]
            have hp : (bytes x).take (i + 1) = (bytes x).take i ++ [bt x i] := by
              rw [List.take_add_one, g1]; rfl
            rw [hp] at hn
            congr 1
            conv => rhs; rw [hL]
            exact (push_pair hn h3).symm
        · obtain ⟨y, e1, e2⟩ := ih (i + 1) (by omega) (by
            intro j a b j1 j2
            by_cases e : j + 1 = i + 1
            · obtain rfl : j = i := by omega
              rw [List.getElem?_take, if_pos (by omega)] at j1 j2
              rw [g1] at j1
              rw [g2] at j2
              cases j1
              cases j2
              exact h3
            · have hj := (List.getElem?_eq_some_iff.1 j2).1
              rw [List.length_take] at hj
              refine hn j a b ?_ ?_
              · rw [List.getElem?_take, if_pos (by omega)] at j1 ⊢; exact j1
              · rw [List.getElem?_take, if_pos (by omega)] at j2 ⊢; exact j2)
          refine ⟨y, Evn.succ ?_, e2⟩
          simp only [spec_LooseWay.l0, w1]
          refine Evn.pos (by omega) (Evn.pos (by omega) (Evn.pos (by omega) (Evn.bind (sLetter _) (Evn.pos (by omega) (Evn.bind (sLetter _) ?_)))))
          exact Evn.neg (by rw [w3]; exact h3) e1
      · refine ⟨x, Evn.succ ?_, ?_⟩
        · simp only [spec_LooseWay.l0, w1]
          exact Evn.neg (by omega) (Evn.now _)
        · rw [List.take_of_length_le (by rw [bytes_len]; omega)] at hn
          have := push_all (bytes x) [] (by simpa using hn)
          rw [this]; simp

/-- The letter of the other side. -/
def other (l : Int) : Int := bt (⟨#[83, 69, 87, 78]⟩ : ByteArray) l
theorem opp_is (b : Int) (h0 : 0 ≤ b) (h1 : b ≤ 255) (hl : 0 ≤ letter b) : impl_opposite.f b = some (other (letter b)) := by
  unfold impl_opposite.f
  rw [index_letter b h0 h1]
  simp only [Option.bind_some]
  have := letter_in b
  rw [if_pos hl, if_pos (by omega)]
  rfl
theorem four {a : Int} (h : 0 ≤ letter a) : a = 78 ∨ a = 87 ∨ a = 69 ∨ a = 83 := by
  unfold letter at h
  repeat' split at h
  all_goals omega
theorem fits {a b : Int} (ha : 0 ≤ letter a) (hb : 0 ≤ letter b) : a = other (letter b) ↔ letter a + letter b = 3 := by
  rcases four ha with rfl | rfl | rfl | rfl <;> rcases four hb with rfl | rfl | rfl | rfl <;> decide
theorem iLoose (s : ByteArray) (hs : s.size ≤ 200) (hl : ∀ j : Nat, j < s.size → 0 ≤ letter (bt s j)) : ∀ (n i : Nat) (rs : List Int), i + n = s.size → rs.length ≤ i → (∀ a ∈ rs, 0 ≤ letter a) →
    Evn (fun k => impl_LooseWay.l0 k s rs.reverse (s.size : Int) i) (strOfNums (((bytes s).drop i).foldl push rs).reverse, 0) := by
  intro n
  induction n with
  | zero =>
    intro i rs hi hr ha
    refine Evn.succ ?_
    simp only [impl_LooseWay.l0]
    rw [List.drop_of_length_le (by rw [bytes_len]; omega)]
    exact Evn.neg (by omega) (Evn.now _)
  | succ n ih =>
    intro i rs hi hr ha
    have w1 : wrap64 ((i : Int) + 1) = ((i + 1 : Nat) : Int) := by rw [wrap64_in (by omega) (by omega)]; omega
    have g1 := bytes_at s i (by omega)
    have hb := hl i (by omega)
    have hbr := bt_range s (i : Int)
    have hd : (bytes s).drop i = bt s i :: (bytes s).drop (i + 1) := by
      rw [List.drop_eq_getElem_cons (by rw [bytes_len]; omega)]
      rw [List.getElem?_eq_getElem (by rw [bytes_len]; omega)] at g1
      rw [Option.some.inj g1]
    rw [hd, List.foldl_cons]
    cases rs with
    | nil =>
      refine Evn.succ ?_
      simp only [impl_LooseWay.l0, w1]
      refine Evn.pos (by omega) (Evn.neg (by simp) (Evn.pos (by omega) (Evn.pos (by omega) (Evn.pos (by simp) ?_))))
      exact ih (i + 1) [bt s i] (by omega) (by simp) (fun a h => by simp at h; subst h; exact hb)
    | cons a t =>
      have hlen : ((a :: t).reverse.length : Int) = t.length + 1 := by simp
      have w2 : wrap64 (((a :: t).reverse.length : Int) - 1) = t.length := by rw [hlen, wrap64_in (by simp at hr; omega) (by simp at hr; omega)]; omega
      have hrd : rd (a :: t).reverse (t.length : Int) = a := by
        unfold rd
        simp [List.getD_eq_getElem?_getD]
      have ht : (a :: t).reverse.take t.length = t.reverse := by
        rw [List.reverse_cons, List.take_append_of_le_length (by simp)]
        exact List.take_of_length_le (by simp)
      by_cases h3 : letter a + letter (bt s i) = 3
      · refine Evn.succ ?_
        simp only [impl_LooseWay.l0, w1, w2, hrd, opp_is _ hbr.1 hbr.2 hb, Option.bind_some, Int.toNat_natCast, ht]
        simp only [push, if_pos h3]
        refine Evn.pos (by omega) (Evn.pos (by rw [hlen]; omega) (Evn.pos (by omega) (Evn.pos (by rw [hlen]; omega) (Evn.pos (by omega) (Evn.pos (by omega) (Evn.pos ((fits (ha a (by simp)) hb).2 h3) (Evn.pos (by rw [hlen]; omega) ?_)))))))
        exact ih (i + 1) t (by omega) (by simp at hr; omega) (fun c hc => ha c (by simp [hc]))
      · refine Evn.succ ?_
        simp only [impl_LooseWay.l0, w1, w2, hrd, opp_is _ hbr.1 hbr.2 hb, Option.bind_some, Int.toNat_natCast, ht]
        simp only [push, if_neg h3]
        refine Evn.pos (by omega) (Evn.pos (by rw [hlen]; omega) (Evn.pos (by omega) (Evn.pos (by rw [hlen]; omega) (Evn.pos (by omega) (Evn.pos (by omega) (Evn.neg (fun e => h3 ((fits (ha a (by simp)) hb).1 e)) (Evn.pos (by simp at hr ⊢; omega) ?_)))))))
        have := ih (i + 1) (bt s i :: a :: t) (by omega) (by simp at hr ⊢; omega) (fun c hc => by
          rcases List.mem_cons.1 hc with rfl | hc
          · exact hb
          · exact ha c hc)
        rw [List.reverse_cons (a := bt s i)] at this
        exact this
theorem looseWay (s : ByteArray) : ∃ k, laws_FnExactLooseWay.f k s = some true := by
  refine Evn.ex ?_
  unfold laws_FnExactLooseWay.f
  by_cases h : (s.size : Int) > 1048576
  · exact Evn.pos h (Evn.now _)
  refine Evn.neg h ?_
  obtain ⟨c, h1, h2, h3⟩ := way s
  have both : ∃ r q, Evn (fun k => spec_LooseWay.f k s) (r, q) ∧ Evn (fun k => impl_LooseWay.f k s) (r, q) := by
    unfold spec_LooseWay.f impl_LooseWay.f
    by_cases h0 : c = 0
    · obtain ⟨a, b⟩ := h3 h0
      obtain ⟨y, e1, e2⟩ := sLoose s.size s (Nat.le_refl _) a s.size 0 (by omega) (by
        intro j a b j1 j2
        have := (List.getElem?_eq_some_iff.1 j2).1
        simp at this
        omega)
      have e3 := iLoose s a b s.size 0 [] (by omega) (by simp) (fun a h => by simp at h)
      rw [List.drop_zero, ← e2, nums_bytes] at e3
      exact ⟨y, 0, Evn.bind h1 (Evn.pos h0 e1), Evn.bind h2 (Evn.pos h0 e3)⟩
    · exact ⟨⟨#[]⟩, c, Evn.bind h1 (Evn.neg h0 (Evn.now _)), Evn.bind h2 (Evn.neg h0 (Evn.now _))⟩
  obtain ⟨r, q, e1, e2⟩ := both
  exact Evn.bind e1 (Evn.bind e2 (Evn.pos rfl (Evn.pos rfl (Evn.now _))))
end Go.Proofs.Ytlhnjaaapnkgiaa.QZ
namespace Go.Proofs.Ytlhnjaaapnkgiaa.Pure
open Go.RowKit Go.Proofs.Ytlhnjaaapnkgiaa.QZ
theorem FnExactLooseWay : laws_FnExactLooseWay.Pure := fun s _ => looseWay s
end Go.Proofs.Ytlhnjaaapnkgiaa.Pure
