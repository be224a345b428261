/- Plain laws: sides read out of a text. -/
import Derived.Test.YtemhnmbbniminaaDoorReadP
import Derived.Test.YtemhnmbbniminaaDoorSidesW
namespace Go.Proofs.YtemhnmbbniminaaDoor.QV
set_option linter.unusedSimpArgs false
set_option linter.unusedVariables false
open Go.RowKit Go.Proofs.YtemhnmbbniminaaDoor.B Go.Proofs.YtemhnmbbniminaaDoorW.PrintWords Go.Proofs.YtemhnmbbniminaaDoorW.PrintLast Go.Proofs.YtemhnmbbniminaaDoorW.PrintMore

theorem numP_dec (n : Nat) (h : n ≤ 1000) : numP (Lib.decDigits n) = n := by
  unfold numP
  rw [parse_dec n (by omega)]
theorem no_sep (n : Nat) (c : UInt8) (h : digit c = false) : c ∉ Lib.decDigits n := fun hm => by
  have := dec_all n c hm
  rw [h] at this
  cases this
theorem rdO_is (ws : List ByteArray) (i : Nat) (h : i < ws.length) : rdOf ByteArray.empty ws (i : Int) = ws[i] := by
  unfold rdOf
  rw [Int.toNat_natCast, List.getD_eq_getElem?_getD, List.getElem?_eq_getElem h]
  rfl
theorem map_ba : ∀ (a b : List ByteArray), a.map (·.data.toList) = b.map (·.data.toList) → a = b
  | [], [], _ => rfl
  | [], _ :: _, h => by cases h
  | _ :: _, [], h => by cases h
  | x :: a, y :: b, h => by
    simp only [List.map_cons, List.cons.injEq] at h
    rw [ba_ext h.1, map_ba a b h.2]
/-- The i-th word's number, as the reference has it. -/
def numN (ws : List ByteArray) (i : Nat) : Option Nat := nat1 (rdOf ByteArray.empty ws (i : Int)).data.toList
def numS (ws : List ByteArray) (i : Nat) : Int := (((numN ws i).getD 0 : Nat) : Int)
def goodS (ws : List ByteArray) : Bool := decide (ws.length = 5) && (((List.range 5).all fun i => (numN ws i).isSome) && toldB (numS ws))
def resC (ws : List ByteArray) : Nat → Int := if goodS ws = true then numS ws else fun _ => 0
def resQ (ws : List ByteArray) : Int := if goodS ws = true then 0 else 5
theorem res_bad {ws : List ByteArray} (h : goodS ws = false) : resC ws = (fun _ => 0) ∧ resQ ws = 5 := by
  unfold resC resQ
  rw [h]
  exact ⟨rfl, rfl⟩
theorem res_good {ws : List ByteArray} (h : goodS ws = true) : resC ws = numS ws ∧ resQ ws = 0 := by
  unfold resC resQ
  rw [h]
  exact ⟨rfl, rfl⟩
theorem good_len {ws : List ByteArray} (h : ws.length ≠ 5) : goodS ws = false := by
  unfold goodS
  rw [decide_eq_false h]
  rfl
theorem good_num {ws : List ByteArray} {i : Nat} (hi : i < 5) (h : numN ws i = none) : goodS ws = false := by
  unfold goodS
  have : ((List.range 5).all fun i => (numN ws i).isSome) = false := by
    rw [List.all_eq_false]
    exact ⟨i, by simpa using hi, by simp [h]⟩
  rw [this]
  simp
theorem good_told {ws : List ByteArray} (h : toldB (numS ws) = false) : goodS ws = false := by
  unfold goodS
  rw [h]
  simp
theorem good_of {ws : List ByteArray} (h : ws.length = 5) (hn : ∀ i, i < 5 → numN ws i ≠ none) (ht : toldB (numS ws) = true) : goodS ws = true := by
  unfold goodS
  rw [ht, decide_eq_true h, Bool.true_and, Bool.and_true, List.all_eq_true]
  intro i hi
  have := hn i (List.mem_range.1 hi)
  cases e : numN ws i with
  | none => exact absurd e this
  | some u => rfl
theorem good_in {ws : List ByteArray} (h : goodS ws = true) : ws.length = 5 ∧ (∀ i, i < 5 → ∃ u, numN ws i = some u) ∧ toldB (numS ws) = true := by
  unfold goodS at h
  rw [Bool.and_eq_true, Bool.and_eq_true, decide_eq_true_eq, List.all_eq_true] at h
  refine ⟨h.1, fun i hi => ?_, h.2.2⟩
  have := h.2.1 i (List.mem_range.2 hi)
  exact Option.isSome_iff_exists.1 this
/-- .. and as the program has it. -/
def numI (ws : List ByteArray) (i : Nat) : Int := if i < ws.length then numP (rdOf ByteArray.empty ws (i : Int)).data.toList else 0
theorem ans_congr {c d : Nat → Int} (h : ∀ i, i < 5 → c i = d i) : ansS c = ansS d := by
  have e1 : toldB c = toldB d := by
    unfold toldB
    simp only [show List.range 5 = [0, 1, 2, 3, 4] from rfl, List.all_cons, h 0 (by omega), h 1 (by omega), h 2 (by omega), h 3 (by omega), h 4 (by omega), List.all_nil]
  have e2 : pcs c 5 = pcs d 5 := by
    unfold pcs
    simp only [show List.range 5 = [0, 1, 2, 3, 4] from rfl, List.map_cons, h 0 (by omega), h 1 (by omega), h 2 (by omega), h 3 (by omega), h 4 (by omega), List.map_nil]
  unfold ansS txt
  rw [e1, e2]
theorem eq_pcs (ws : List ByteArray) (c : Nat → Int) (hl : ws.length = 5) (h : ∀ i : Nat, i < 5 → rdOf ByteArray.empty ws (i : Int) = dB (c i)) : ws = pcs c 5 := by
  refine List.ext_getElem (by rw [hl, pcs_len]) (fun i h1 h2 => ?_)
  rw [hl] at h1
  have := h i h1
  rw [rdO_is ws i (by omega)] at this
  rw [this]
  simp [pcs]
theorem rd_pcs (c : Nat → Int) (i : Nat) (h : i < 5) : rdOf ByteArray.empty (pcs c 5) (i : Int) = dB (c i) := by
  rw [rdO_is _ _ (by rw [pcs_len]; exact h)]
  simp [pcs]
theorem txt_list (c : Nat → Int) : (txt c 5).data.toList = Lib.join ((pcs c 5).map (·.data.toList)) [32] := jB_list _
theorem good_ans (t : ByteArray) (ws : List ByteArray) (hw : ws.map (·.data.toList) = spl 32 t.data.toList) (h : goodS ws = true) :
    (∀ i, i < 5 → numI ws i = numS ws i) ∧ ansS (numI ws) = t ∧ t.toList ≠ [] := by
  obtain ⟨h5, hn, ht⟩ := good_in h
  have each : ∀ i : Nat, i < 5 → rdOf ByteArray.empty ws (i : Int) = dB (numS ws i) ∧ numI ws i = numS ws i := fun i hi => by
    obtain ⟨u, hu⟩ := hn i hi
    have e : numS ws i = u := by unfold numS; rw [hu]; rfl
    have hin := inB_in (told_in ht i hi)
    rw [e] at hin
    have hd := (nat1_dec hu).1
    refine ⟨ba_ext ?_, ?_⟩
    · rw [hd, dB_list, e, Int.toNat_natCast]
    · unfold numI
      rw [if_pos (by omega), hd, numP_dec u (by omega), e]
  have hp := eq_pcs ws (numS ws) h5 (fun i hi => (each i hi).1)
  refine ⟨fun i hi => (each i hi).2, ?_, ?_⟩
  · rw [ans_congr (fun i hi => (each i hi).2)]
    have e : ansS (numS ws) = txt (numS ws) 5 := by unfold ansS; rw [ht]; rfl
    rw [e]
    refine ba_ext ?_
    rw [txt_list, ← hp, hw]
    exact join_spl 32 _ _ (Nat.le_refl _)
  · intro e
    rw [toList_is] at e
    rw [e] at hw
    have := congrArg List.length hw
    rw [List.length_map, h5, spl_one 32 [] (by simp)] at this
    simp at this
theorem ans_good (t : ByteArray) (ws : List ByteArray) (hw : ws.map (·.data.toList) = spl 32 t.data.toList) (ha : ansS (numI ws) = t) (ht : t.toList ≠ []) : goodS ws = true := by
  have htold : toldB (numI ws) = true := by
    cases e : toldB (numI ws) with
    | true => rfl
    | false =>
      exfalso
      apply ht
      rw [← ha]
      unfold ansS
      rw [e, toList_is]
      rfl
  have e : ansS (numI ws) = txt (numI ws) 5 := by unfold ansS; rw [htold]; rfl
  have hp : ws = pcs (numI ws) 5 := by
    refine map_ba _ _ ?_
    rw [hw, ← ha, e, txt_list]
    refine spl_join 32 _ ?_ ?_
    · intro e
      have := congrArg List.length e
      rw [List.length_map, pcs_len] at this
      simp at this
    · intro w hwm
      obtain ⟨p, hp, rfl⟩ := List.mem_map.1 hwm
      unfold pcs at hp
      obtain ⟨i, _, rfl⟩ := List.mem_map.1 hp
      rw [dB_list]
      exact no_sep _ 32 (by decide)
  have each : ∀ i, i < 5 → numN ws i = some (numI ws i).toNat := fun i hi => by
    have hr : rdOf ByteArray.empty ws (i : Int) = dB (numI ws i) := by
      have := rd_pcs (numI ws) i hi
      rwa [← hp] at this
    unfold numN
    rw [hr, dB_list]
    have := inB_in (told_in htold i hi)
    exact nat1_of _ (by omega)
  refine good_of (by rw [hp, pcs_len]) (fun i hi => by rw [each i hi]; simp) ?_
  refine told_good fun i hi => ?_
  have h1 := told_in htold i hi
  have h2 := inB_in h1
  have : numS ws i = numI ws i := by
    unfold numS
    rw [each i hi]
    exact Int.toNat_of_nonneg h2.1
  rw [this]
  exact h1
/-- What the program answers. -/
theorem bad_ans (t : ByteArray) (ws : List ByteArray) (hw : ws.map (·.data.toList) = spl 32 t.data.toList) (h : goodS ws = false) : ansS (numI ws) ≠ t ∨ t.toList = [] := by
  by_cases h1 : ansS (numI ws) = t
  · by_cases h2 : t.toList = []
    · exact .inr h2
    · rw [ans_good t ws hw h1 h2] at h
      cases h
  · exact .inl h1
theorem words_of (t : ByteArray) (ht : t.size ≤ 1048576) : ∃ ws : List ByteArray, (∃ k, spec_l01Split.f k t 32 = some ws) ∧ strings_Split.f t (⟨#[32]⟩ : ByteArray) = some ws ∧ ws.map (·.data.toList) = spl 32 t.data.toList ∧ ws.length ≤ 2097152 ∧ ∀ w ∈ ws, w.size ≤ 1048576 := by
  obtain ⟨rs, hr, hrm⟩ := split_is t 32 ht
  have e : Lib.splitB ⟨#[32]⟩ 0 (Lib.countB t ⟨#[32]⟩) t = rs := map_ba _ _ ((splitB_is 32 t).trans hrm.symm)
  obtain ⟨h1, h2⟩ := spl_len 32 _ t.data.toList (Nat.le_refl _)
  rw [← hrm, List.length_map, sz_list] at h2
  refine ⟨rs, Evn.ex hr, ?_, hrm, by omega, fun w hw => ?_⟩
  · unfold strings_Split.f
    rw [if_pos ⟨by omega, by decide⟩, e]
  · have := h1 w.data.toList (by rw [← hrm]; exact List.mem_map_of_mem hw)
    rw [sz_list, sz_list] at this
    omega
end Go.Proofs.YtemhnmbbniminaaDoor.QV
