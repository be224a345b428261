/- Plain laws: texts split at a byte, numbers read. No program in sight. -/
import Derived.Test.YtibpndhcijmhpaaGreatDoorTexts
import Derived.Lib.SplitLaws
import Derived.Lib.IndexBytes
import Derived.Lib.ParseIntB
namespace Go.Proofs.YtibpndhcijmhpaaGreatDoor.B
set_option linter.unusedSimpArgs false
set_option linter.unusedVariables false

theorem loop_is (b : ByteArray) : ∀ (n i : Nat) (r : List UInt8), n = b.size - i → ByteArray.toList.loop b i r = r.reverse ++ b.data.toList.drop i := by
  intro n
  induction n with
  | zero =>
    intro i r h
    unfold ByteArray.toList.loop
    rw [if_neg (by omega), List.drop_eq_nil_of_le (by rw [sz_list]; omega), List.append_nil]
  | succ n ih =>
    intro i r h
    unfold ByteArray.toList.loop
    have hi : i < b.size := by omega
    have hd : i < b.data.toList.length := by rw [sz_list]; exact hi
    rw [if_pos hi, ih (i + 1) _ (by omega), List.reverse_cons, List.append_assoc, List.drop_eq_getElem_cons hd]
    have e : b.get! i = b.data.toList[i] := by
      rw [Array.getElem_toList]
      have hi2 : i < b.data.size := hi
      show b.data[i]! = _
      rw [getElem!_pos b.data i hi2]
    rw [e]
    rfl
theorem toList_is (b : ByteArray) : b.toList = b.data.toList := by
  unfold ByteArray.toList
  rw [loop_is b b.size 0 [] (by omega)]
  simp
/-- A text split at a byte. -/
def spl (c : UInt8) : List UInt8 → List (List UInt8)
  | [] => [[]]
  | b :: l => if b = c then [] :: spl c l else match spl c l with
    | [] => [[b]]
    | w :: ws => (b :: w) :: ws
theorem spl_ne (c : UInt8) (l : List UInt8) : spl c l ≠ [] := by
  cases l with
  | nil => simp [spl]
  | cons b l =>
    simp only [spl]
    split
    · simp
    · split <;> simp
theorem spl_cases (c : UInt8) : ∀ l : List UInt8, (Lib.indexByte l c = -1 ∧ c ∉ l ∧ spl c l = [l]) ∨ ∃ a b, l = a ++ c :: b ∧ c ∉ a ∧ Lib.indexByte l c = a.length ∧ spl c l = a :: spl c b
  | [] => .inl ⟨rfl, by simp, rfl⟩
  | x :: l => by
    by_cases h : x = c
    · subst h
      exact .inr ⟨[], l, rfl, by simp, by simp [Lib.indexByte], by simp [spl]⟩
    · have hb : (x == c) = false := by simpa using h
      rcases spl_cases c l with ⟨h1, h2, h3⟩ | ⟨a, b, h1, h2, h3, h4⟩
      · refine .inl ⟨by simp [Lib.indexByte, hb, h1], ?_, by simp [spl, h, h3]⟩
        intro hm
        rcases List.mem_cons.1 hm with e | e
        · exact h e.symm
        · exact h2 e
      · refine .inr ⟨x :: a, b, by rw [h1]; rfl, ?_, ?_, by simp [spl, h, h4]⟩
        · intro hm
          rcases List.mem_cons.1 hm with e | e
          · exact h e.symm
          · exact h2 e
        · have hn : ((Lib.indexByte l c) == -1) = false := by
            rw [h3]
            simp
          simp only [Lib.indexByte, hb, hn]
          rw [h3]
          simp
theorem spl_one (c : UInt8) (w : List UInt8) (h : c ∉ w) : spl c w = [w] := by
  rcases spl_cases c w with ⟨_, _, h3⟩ | ⟨a, b, h1, _⟩
  · exact h3
  · exact absurd (by rw [h1]; simp) h
theorem spl_app (c : UInt8) (w l : List UInt8) (h : c ∉ w) : spl c (w ++ c :: l) = w :: spl c l := by
  induction w with
  | nil => simp [spl]
  | cons x w ih =>
    have hx : x ≠ c := fun e => h (by rw [e]; exact List.mem_cons_self)
    have := ih (fun hm => h (List.mem_cons_of_mem _ hm))
    rw [List.cons_append, spl, if_neg hx, this]
theorem spl_join (c : UInt8) : ∀ (ws : List (List UInt8)), ws ≠ [] → (∀ w ∈ ws, c ∉ w) → spl c (Lib.join ws [c]) = ws
  | [], h, _ => absurd rfl h
  | [w], _, h => by rw [Lib.join_one]; exact spl_one c w (h w List.mem_cons_self)
  | w :: v :: ws, _, h => by
    have e : Lib.join (w :: v :: ws) [c] = w ++ c :: Lib.join (v :: ws) [c] := by
      rw [Lib.join_cons, Lib.join_cons]
      simp [Lib.joinTail]
    rw [e, spl_app c _ _ (h w List.mem_cons_self), spl_join c (v :: ws) (by simp) (fun u hu => h u (List.mem_cons_of_mem _ hu))]
theorem join_spl (c : UInt8) : ∀ (n : Nat) (l : List UInt8), l.length ≤ n → Lib.join (spl c l) [c] = l := by
  intro n
  induction n with
  | zero =>
    intro l h
    obtain rfl : l = [] := List.length_eq_zero_iff.1 (by omega)
    simp [spl, Lib.join_one]
  | succ n ih =>
    intro l h
    rcases spl_cases c l with ⟨_, _, h3⟩ | ⟨a, b, h1, _, _, h4⟩
    · rw [h3, Lib.join_one]
    · rw [h4]
      have hb := ih b (by rw [h1] at h; simp at h; omega)
      cases hs : spl c b with
      | nil => exact absurd hs (spl_ne c b)
      | cons v ws =>
        rw [hs] at hb
        have e : Lib.join (a :: v :: ws) [c] = a ++ c :: Lib.join (v :: ws) [c] := by
          rw [Lib.join_cons, Lib.join_cons]
          simp [Lib.joinTail]
        rw [e, hb, h1]
/-- No piece holds the byte. -/
theorem spl_no (c : UInt8) : ∀ (n : Nat) (l : List UInt8), l.length ≤ n → ∀ w ∈ spl c l, c ∉ w := by
  intro n
  induction n with
  | zero =>
    intro l h w hw
    obtain rfl : l = [] := List.length_eq_zero_iff.1 (by omega)
    simp [spl] at hw
    subst hw
    simp
  | succ n ih =>
    intro l h w hw
    rcases spl_cases c l with ⟨_, h2, h3⟩ | ⟨a, b, h1, h2, _, h4⟩
    · rw [h3] at hw
      rw [List.mem_singleton.1 hw]
      exact h2
    · rw [h4] at hw
      rcases List.mem_cons.1 hw with rfl | hw
      · exact h2
      · exact ih b (by rw [h1] at h; simp at h; omega) w hw
theorem spl_len (c : UInt8) : ∀ (n : Nat) (l : List UInt8), l.length ≤ n → (∀ w ∈ spl c l, w.length ≤ l.length) ∧ (spl c l).length ≤ l.length + 1 := by
  intro n
  induction n with
  | zero =>
    intro l h
    obtain rfl : l = [] := List.length_eq_zero_iff.1 (by omega)
    simp [spl]
  | succ n ih =>
    intro l h
    rcases spl_cases c l with ⟨_, _, h3⟩ | ⟨a, b, h1, _, _, h4⟩
    · rw [h3]
      exact ⟨fun w hw => by rw [List.mem_singleton.1 hw]; exact Nat.le_refl _, by simp⟩
    · have hl : l.length = a.length + b.length + 1 := by rw [h1]; simp; omega
      obtain ⟨i1, i2⟩ := ih b (by omega)
      rw [h4]
      refine ⟨fun w hw => ?_, by simp; omega⟩
      rcases List.mem_cons.1 hw with rfl | hw
      · omega
      · have := i1 w hw
        omega
/-- The shelf's splitting is this. -/
theorem splitK_is (c : UInt8) : ∀ (k : Nat) (s : List UInt8), s.count c ≤ k → Lib.splitK [c] 0 k s = spl c s
  | 0, s, h => by
    have hn : c ∉ s := List.count_eq_zero.1 (by omega)
    rw [spl_one c s hn]
    rfl
  | k + 1, s, h => by
    rw [Lib.splitK, Lib.index_one]
    rcases spl_cases c s with ⟨h1, _, h3⟩ | ⟨a, b, h1, h2, h3, h4⟩
    · rw [h1, h3]
      rfl
    · have hn : ((Lib.indexByte s c) == -1) = false := by
        rw [h3]
        simp
      have ht : (Lib.indexByte s c).toNat = a.length := by rw [h3]; simp
      rw [hn, if_neg (by simp), ht, h4]
      have e1 : s.take (a.length + 0) = a := by rw [h1]; simp
      have e2 : s.drop (a.length + [c].length) = b := by rw [h1]; simp
      rw [e1, e2, splitK_is c k b (by rw [h1] at h; simp at h; omega)]
theorem splitB_is (c : UInt8) (s : ByteArray) : (Lib.splitB ⟨#[c]⟩ 0 (Lib.countB s ⟨#[c]⟩) s).map (·.data.toList) = spl c s.data.toList := by
  rw [Lib.splitB_data]
  exact splitK_is c _ _ (by
    show s.data.toList.count c ≤ Lib.count s.data.toList [c]
    rw [Lib.count_one]
    exact Nat.le_refl _)
/-- The shelf's cut. -/
theorem cut_is (c : UInt8) (l : List UInt8) : (c ∉ l ∧ Lib.cut l [c] = (l, [], false)) ∨ ∃ a b, l = a ++ c :: b ∧ c ∉ a ∧ Lib.cut l [c] = (a, b, true) := by
  unfold Lib.cut
  rw [Lib.index_one]
  rcases spl_cases c l with ⟨h1, h2, _⟩ | ⟨a, b, h1, h2, h3, _⟩
  · refine .inl ⟨h2, ?_⟩
    rw [h1]
    rfl
  · refine .inr ⟨a, b, h1, h2, ?_⟩
    rw [if_pos (by rw [h3]; omega), h3]
    have e1 : l.take ((a.length : Int)).toNat = a := by rw [h1]; simp
    have e2 : l.drop (((a.length : Int)).toNat + [c].length) = b := by rw [h1]; simp
    rw [e1, e2]
/-- Is it a digit? -/
def digit (c : UInt8) : Bool := decide (48 ≤ c.toNat) && decide (c.toNat ≤ 57)
theorem digit_iff (c : UInt8) : digit c = true ↔ 48 ≤ c.toNat ∧ c.toNat ≤ 57 := by simp [digit]
/-- What digits spell, behind what is read. -/
def valFrom : Nat → List UInt8 → Option Nat
  | acc, [] => some acc
  | acc, c :: r => if digit c then valFrom (acc * 10 + (c.toNat - 48)) r else none
/-- A number of at most ten digits, as it is written. -/
def nat1 (l : List UInt8) : Option Nat := if l = [] ∨ 10 < l.length ∨ (l.head? = some 48 ∧ 1 < l.length) then none else valFrom 0 l
theorem val_ge : ∀ (l : List UInt8) (acc u : Nat), valFrom acc l = some u → acc ≤ u
  | [], acc, u, h => by simp [valFrom] at h; omega
  | c :: r, acc, u, h => by
    simp only [valFrom] at h
    split at h
    · have := val_ge r _ _ h; omega
    · cases h
theorem val_lt : ∀ (l : List UInt8) (acc u : Nat), valFrom acc l = some u → u < (acc + 1) * 10 ^ l.length
  | [], acc, u, h => by simp [valFrom] at h; simp; omega
  | c :: r, acc, u, h => by
    simp only [valFrom] at h
    split at h
    · rename_i hd
      have hd := (digit_iff c).1 hd
      have h1 := val_lt r _ _ h
      have h2 : (acc * 10 + (c.toNat - 48) + 1) * 10 ^ r.length ≤ ((acc + 1) * 10) * 10 ^ r.length := Nat.mul_le_mul_right _ (by omega)
      rw [List.length_cons, Nat.pow_succ, Nat.mul_comm (10 ^ r.length) 10, ← Nat.mul_assoc]
      omega
    · cases h
theorem ofNat_digit (c : UInt8) (h : digit c = true) : UInt8.ofNat (48 + (c.toNat - 48)) = c := by
  have := (digit_iff c).1 h
  rw [show 48 + (c.toNat - 48) = c.toNat by omega]
  exact UInt8.ofNat_toNat
theorem dec_push (acc : Nat) (c : UInt8) (ha : 1 ≤ acc) (h : digit c = true) : Lib.decDigits (acc * 10 + (c.toNat - 48)) = Lib.decDigits acc ++ [c] := by
  have hc := (digit_iff c).1 h
  rw [dec_more _ (by omega), show (acc * 10 + (c.toNat - 48)) / 10 = acc by omega, show 48 + (acc * 10 + (c.toNat - 48)) % 10 = 48 + (c.toNat - 48) by omega, ofNat_digit c h]
theorem val_dec : ∀ (l : List UInt8) (acc u : Nat), 1 ≤ acc → valFrom acc l = some u → Lib.decDigits u = Lib.decDigits acc ++ l
  | [], acc, u, _, h => by simp [valFrom] at h; rw [h, List.append_nil]
  | c :: r, acc, u, ha, h => by
    simp only [valFrom] at h
    split at h
    · rename_i hd
      rw [val_dec r _ u (by omega) h, dec_push acc c ha hd, List.append_assoc]
      rfl
    · cases h
/-- What is read so is written so. -/
theorem nat1_dec {l : List UInt8} {u : Nat} (h : nat1 l = some u) : l = Lib.decDigits u ∧ u < 10 ^ 10 := by
  unfold nat1 at h
  split at h
  · cases h
  · rename_i hn
    have hl : l ≠ [] := fun e => hn (.inl e)
    have hlen : l.length ≤ 10 := Nat.le_of_not_lt (fun e => hn (.inr (.inl e)))
    have hlt := val_lt l 0 u h
    have hp : 10 ^ l.length ≤ 10 ^ 10 := Nat.pow_le_pow_right (by omega) hlen
    refine ⟨?_, by omega⟩
    cases l with
    | nil => exact absurd rfl hl
    | cons c r =>
      simp only [valFrom] at h
      split at h
      · rename_i hd
        have hc := (digit_iff c).1 hd
        rw [Nat.zero_mul, Nat.zero_add] at h
        by_cases h0 : c.toNat = 48
        · have hr : r = [] := by
            apply List.length_eq_zero_iff.1
            have hne : ¬ (1 < (c :: r).length) := fun e => hn (.inr (.inr ⟨by
              have : c = 48 := UInt8.toNat_inj.1 (by rw [h0]; rfl)
              rw [this]; rfl, e⟩))
            have hlc : (c :: r).length = r.length + 1 := rfl
            omega
          subst hr
          simp [valFrom, h0] at h
          subst h
          rw [dec_small 0 (by omega)]
          have : c = 48 := UInt8.toNat_inj.1 (by rw [h0]; rfl)
          rw [this]
          rfl
        · rw [val_dec r _ u (by omega) h, dec_small _ (by omega), ofNat_digit c hd]
          rfl
      · cases h
theorem val_app : ∀ (l : List UInt8) (acc : Nat) (c : UInt8), valFrom acc (l ++ [c]) = (valFrom acc l).bind fun v => if digit c then some (v * 10 + (c.toNat - 48)) else none
  | [], acc, c => rfl
  | x :: l, acc, c => by
    simp only [List.cons_append, valFrom]
    split
    · exact val_app l _ c
    · rfl
theorem toNat_digit (d : Nat) (h : d < 10) : (UInt8.ofNat (48 + d)).toNat = 48 + d := by
  rw [UInt8.toNat_ofNat']
  omega
theorem digit_of (d : Nat) (h : d < 10) : digit (UInt8.ofNat (48 + d)) = true := by
  rw [digit_iff, toNat_digit d h]
  omega
theorem val_of (n : Nat) : valFrom 0 (Lib.decDigits n) = some n := by
  induction n using Nat.strongRecOn with
  | _ n ih =>
    by_cases h : n < 10
    · rw [dec_small n h]
      simp only [valFrom, digit_of n h, if_true, toNat_digit n h]
      congr 1
      omega
    · rw [dec_more n h, val_app, ih (n / 10) (by omega)]
      simp only [Option.bind_some, digit_of (n % 10) (by omega), if_true, toNat_digit (n % 10) (by omega)]
      congr 1
      omega
theorem dec_all (n : Nat) : ∀ c ∈ Lib.decDigits n, digit c = true := by
  induction n using Nat.strongRecOn with
  | _ n ih =>
    intro c hc
    by_cases h : n < 10
    · rw [dec_small n h] at hc
      rw [List.mem_singleton.1 hc]
      exact digit_of n h
    · rw [dec_more n h] at hc
      rcases List.mem_append.1 hc with hc | hc
      · exact ih _ (by omega) c hc
      · rw [List.mem_singleton.1 hc]
        exact digit_of _ (by omega)
theorem dec_ne (n : Nat) : Lib.decDigits n ≠ [] := by
  by_cases h : n < 10
  · rw [dec_small n h]; simp
  · rw [dec_more n h]; simp
theorem dec_head (n : Nat) (hn : 1 ≤ n) : (Lib.decDigits n).head? ≠ some 48 := by
  induction n using Nat.strongRecOn with
  | _ n ih =>
    by_cases h : n < 10
    · rw [dec_small n h]
      intro e
      have e2 : UInt8.ofNat (48 + n) = 48 := by simpa using e
      have := congrArg UInt8.toNat e2
      rw [toNat_digit n h] at this
      have h48 : (48 : UInt8).toNat = 48 := rfl
      omega
    · have h1 := ih (n / 10) (by omega) (by omega)
      obtain ⟨x, xs, e⟩ := List.exists_cons_of_ne_nil (dec_ne (n / 10))
      rw [dec_more n h, e]
      rw [e] at h1
      exact h1
/-- What is written so is read so. -/
theorem nat1_of (n : Nat) (h : n < 10 ^ 10) : nat1 (Lib.decDigits n) = some n := by
  unfold nat1
  rw [if_neg, val_of]
  rintro (e | e | ⟨e1, e2⟩)
  · exact dec_ne n e
  · have := dec_len 9 n h
    omega
  · by_cases h0 : n < 10
    · rw [dec_small n h0] at e2
      simp at e2
    · exact dec_head n (by omega) e1
theorem parseM_is (M : Nat) (hM : 10 ^ 15 ≤ M) : ∀ (l : List UInt8) (acc u : Nat), valFrom acc l = some u → u < 10 ^ 15 → Lib.parseUintM M acc l = .ok u
  | [], acc, u, h, _ => by simp [valFrom] at h; rw [h]; rfl
  | c :: r, acc, u, h, hu => by
    simp only [valFrom] at h
    split at h
    · rename_i hd
      have hc := (digit_iff c).1 hd
      have h1 := val_ge r _ _ h
      rw [Lib.parseUintM, if_pos hc, if_neg (by omega), if_neg (by omega)]
      exact parseM_is M hM r _ u h hu
    · cases h
/-- ParseInt at what is written so. -/
theorem parse_dec (n : Nat) (h : n < 10 ^ 10) : Lib.parseIntB 64 (Lib.decDigits n) = .ok n := by
  have hv := val_of n
  have hd := dec_all n
  cases hl : Lib.decDigits n with
  | nil => exact absurd hl (dec_ne n)
  | cons c r =>
    rw [hl] at hv hd
    have hc := (digit_iff c).1 (hd c List.mem_cons_self)
    have hu : Lib.parseUintB 64 (c :: r) = .ok n := by
      unfold Lib.parseUintB
      rw [if_neg (by simp)]
      exact parseM_is _ (by decide) _ 0 n hv (by omega)
    unfold Lib.parseIntB
    have e1 : ¬ (c.toNat = 43 ∨ c.toNat = 45) := by omega
    have e2 : ¬ (c.toNat = 45) := by omega
    simp only [if_neg e1, hu]
    rw [if_neg, if_neg, if_neg e2]
    · exact fun e => e2 e.1
    · intro e
      have := e.2
      have h63 : 2 ^ (64 - 1) = 9223372036854775808 := by decide
      omega
end Go.Proofs.YtibpndhcijmhpaaGreatDoor.B
