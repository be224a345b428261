/- Plain laws: ReadWeather. -/
import Derived.Test.YtibpndhcijmhpaaGreatDoorReadP
import Derived.Test.YtibpndhcijmhpaaGreatDoorWeatherI
namespace Go.Proofs.YtibpndhcijmhpaaGreatDoor.QG
set_option linter.unusedSimpArgs false
set_option linter.unusedVariables false
open Go.RowKit Go.Proofs.YtibpndhcijmhpaaGreatDoor.B Go.Proofs.YtibpndhcijmhpaaGreatDoorW.PrintWords Go.Proofs.YtibpndhcijmhpaaGreatDoorW.PrintLast Go.Proofs.YtibpndhcijmhpaaGreatDoorW.PrintMore

/-- A piece, as it is written. -/
def pcL (p : Nat × Nat) : List UInt8 := Lib.decDigits p.1 ++ 47 :: Lib.decDigits p.2
/-- A piece, as it must be written. -/
def canon (w : List UInt8) : Option (Nat × Nat) := match spl 47 w with
  | [a, b] => (nat1 a).bind fun x => (nat1 b).bind fun y => if x ≤ 50 ∧ y ≤ 40 then some (x, y) else none
  | _ => none
def mkC (p : Nat × Nat) : S43 := ⟨(p.1 : Int), (p.2 : Int)⟩
def canons : List (List UInt8) → Option (List (S43))
  | [] => some []
  | w :: ws => (canon w).bind fun p => (canons ws).bind fun cs => some (mkC p :: cs)
/-- A piece, as the program reads it. -/
def lean1 (w : List UInt8) : Option (S43) := if (0 ≤ numP (Lib.cut w [47]).1 ∧ numP (Lib.cut w [47]).1 ≤ 50) ∧ 0 ≤ numP (Lib.cut w [47]).2.1 ∧ numP (Lib.cut w [47]).2.1 ≤ 40 then some ⟨numP (Lib.cut w [47]).1, numP (Lib.cut w [47]).2.1⟩ else none
def leans : List (List UInt8) → Option (List (S43))
  | [] => some []
  | w :: ws => (lean1 w).bind fun c => (leans ws).bind fun cs => some (c :: cs)
theorem numP_dec (n : Nat) (h : n ≤ 1000) : numP (Lib.decDigits n) = n := by
  unfold numP
  rw [parse_dec n (by omega)]
theorem no_sep (n : Nat) (c : UInt8) (h : digit c = false) : c ∉ Lib.decDigits n := fun hm => by
  have := dec_all n c hm
  rw [h] at this
  cases this
theorem canon_is {w : List UInt8} {p : Nat × Nat} (h : canon w = some p) : w = pcL p ∧ p.1 ≤ 50 ∧ p.2 ≤ 40 := by
  unfold canon at h
  split at h
  · rename_i a b hs
    obtain ⟨x, hx, h⟩ := Option.bind_eq_some_iff.1 h
    obtain ⟨y, hy, h⟩ := Option.bind_eq_some_iff.1 h
    split at h
    · rename_i hb
      obtain rfl := Option.some.inj h
      refine ⟨?_, hb.1, hb.2⟩
      have hj := join_spl 47 w.length w (Nat.le_refl _)
      rw [hs, (nat1_dec hx).1, (nat1_dec hy).1] at hj
      rw [← hj]
      simp [pcL, Lib.join_cons, Lib.joinTail]
    · cases h
  · cases h
theorem spl_pc (p : Nat × Nat) : spl 47 (pcL p) = [Lib.decDigits p.1, Lib.decDigits p.2] := by
  unfold pcL
  rw [spl_app _ _ _ (no_sep _ _ (by decide)), spl_one _ _ (no_sep _ _ (by decide))]
theorem canon_of (p : Nat × Nat) (h1 : p.1 ≤ 50) (h2 : p.2 ≤ 40) : canon (pcL p) = some p := by
  unfold canon
  rw [spl_pc]
  simp only [nat1_of p.1 (by omega), nat1_of p.2 (by omega), Option.bind_some]
  rw [if_pos ⟨h1, h2⟩]
theorem lean_of (p : Nat × Nat) (h1 : p.1 ≤ 50) (h2 : p.2 ≤ 40) : lean1 (pcL p) = some (mkC p) := by
  have hc : Lib.cut (pcL p) [47] = (Lib.decDigits p.1, Lib.decDigits p.2, true) := by
    rcases cut_is 47 (pcL p) with ⟨hn, _⟩ | ⟨a, b, e1, e2, e3⟩
    · exact absurd (by simp [pcL]) hn
    · have hs := spl_pc p
      rw [e1, spl_app _ _ _ e2] at hs
      obtain ⟨ha, hb⟩ := List.cons.inj hs
      have hj := join_spl 47 b.length b (Nat.le_refl _)
      rw [hb, Lib.join_one] at hj
      rw [e3, ha, ← hj]
  unfold lean1
  rw [hc]
  simp only [numP_dec p.1 (by omega), numP_dec p.2 (by omega)]
  rw [if_pos (by omega)]
  rfl
theorem lean_in {w : List UInt8} {c : S43} (h : lean1 w = some c) : okW c = true ∧ c = mkC (c.f0.toNat, c.f1.toNat) ∧ c.f0.toNat ≤ 50 ∧ c.f1.toNat ≤ 40 := by
  unfold lean1 at h
  generalize numP (Lib.cut w [47]).1 = x at h
  generalize numP (Lib.cut w [47]).2.1 = y at h
  split at h
  · rename_i hb
    obtain rfl := Option.some.inj h
    refine ⟨?_, ?_, ?_, ?_⟩
    · unfold okW
      rw [wrap64_in (x := x) (by omega) (by omega), wrap64_in (x := y) (by omega) (by omega)]
      simp [hb.1.1, hb.1.2, hb.2.1, hb.2.2]
    · unfold mkC
      congr 1
      · exact (Int.toNat_of_nonneg hb.1.1).symm
      · exact (Int.toNat_of_nonneg hb.2.1).symm
    · show x.toNat ≤ 50
      omega
    · show y.toNat ≤ 40
      omega
  · cases h
theorem pc_list (p : Nat × Nat) (h1 : p.1 ≤ 50) (h2 : p.2 ≤ 40) : (pcW (mkC p)).data.toList = pcL p := by
  have e1 : wrap64 (mkC p).f0 = (p.1 : Int) := wrap64_in (x := (p.1 : Int)) (by omega) (by omega)
  have e2 : wrap64 (mkC p).f1 = (p.2 : Int) := wrap64_in (x := (p.2 : Int)) (by omega) (by omega)
  unfold pcW pcL
  rw [e1, e2, ba_app, ba_app, dB_list, dB_list, Int.toNat_natCast, Int.toNat_natCast, List.append_assoc]
  rfl
theorem okW_mk (p : Nat × Nat) (h1 : p.1 ≤ 50) (h2 : p.2 ≤ 40) : okW (mkC p) = true := by
  have e1 : wrap64 (mkC p).f0 = (p.1 : Int) := wrap64_in (x := (p.1 : Int)) (by omega) (by omega)
  have e2 : wrap64 (mkC p).f1 = (p.2 : Int) := wrap64_in (x := (p.2 : Int)) (by omega) (by omega)
  unfold okW
  rw [e1, e2]
  simp
  omega
theorem canons_is : ∀ (ws : List (List UInt8)) (cs : List (S43)), canons ws = some cs → leans ws = some cs ∧ ws = cs.map (fun c => (pcW c).data.toList) ∧ ∀ c ∈ cs, okW c = true
  | [], cs, h => by
    obtain rfl : [] = cs := Option.some.inj h
    exact ⟨rfl, rfl, fun _ h => by cases h⟩
  | w :: ws, cs, h => by
    simp only [canons] at h
    obtain ⟨p, hp, h⟩ := Option.bind_eq_some_iff.1 h
    obtain ⟨ds, hd, h⟩ := Option.bind_eq_some_iff.1 h
    obtain rfl := Option.some.inj h
    obtain ⟨e, b1, b2⟩ := canon_is hp
    obtain ⟨i1, i2, i3⟩ := canons_is ws ds hd
    refine ⟨?_, ?_, fun c hc => ?_⟩
    · simp only [leans]
      rw [e, lean_of p b1 b2, i1]
      rfl
    · rw [List.map_cons, pc_list p b1 b2, ← i2, e]
    · rcases List.mem_cons.1 hc with rfl | hc
      · exact okW_mk p b1 b2
      · exact i3 c hc
theorem leans_is : ∀ (ws : List (List UInt8)) (cs : List (S43)), leans ws = some cs → cs.length = ws.length ∧ (∀ c ∈ cs, okW c = true) ∧ canons (cs.map (fun c => (pcW c).data.toList)) = some cs ∧ ∀ c ∈ cs, (32 : UInt8) ∉ (pcW c).data.toList
  | [], cs, h => by
    obtain rfl : [] = cs := Option.some.inj h
    exact ⟨rfl, fun _ h => (by cases h), rfl, fun _ h => (by cases h)⟩
  | w :: ws, cs, h => by
    simp only [leans] at h
    obtain ⟨c, hc, h⟩ := Option.bind_eq_some_iff.1 h
    obtain ⟨ds, hd, h⟩ := Option.bind_eq_some_iff.1 h
    obtain rfl := Option.some.inj h
    obtain ⟨i1, i2, i3, i4⟩ := leans_is ws ds hd
    obtain ⟨k1, k2, k3, k4⟩ := lean_in hc
    have hl : (pcW c).data.toList = pcL (c.f0.toNat, c.f1.toNat) := by
      have := pc_list (c.f0.toNat, c.f1.toNat) k3 k4
      rwa [← k2] at this
    refine ⟨by simp [i1], fun d hdm => ?_, ?_, fun d hdm => ?_⟩
    · rcases List.mem_cons.1 hdm with rfl | hdm
      · exact k1
      · exact i2 d hdm
    · simp only [List.map_cons, canons]
      rw [hl, canon_of _ k3 k4, i3]
      simp only [Option.bind_some]
      rw [← k2]
    · rcases List.mem_cons.1 hdm with rfl | hdm
      · rw [hl]
        unfold pcL
        intro hm
        rcases List.mem_append.1 hm with hm | hm
        · exact no_sep _ 32 (by decide) hm
        · rcases List.mem_cons.1 hm with e | hm
          · cases e
          · exact no_sep _ 32 (by decide) hm
      · exact i4 d hdm
theorem rdO_is (ws : List ByteArray) (i : Nat) (h : i < ws.length) : rdOf ByteArray.empty ws (i : Int) = ws[i] := by
  unfold rdOf
  rw [Int.toNat_natCast, List.getD_eq_getElem?_getD, List.getElem?_eq_getElem h]
  rfl
theorem drop_map (ws : List ByteArray) (i : Nat) (h : i < ws.length) : (ws.drop i).map (·.data.toList) = (ws[i]).data.toList :: (ws.drop (i + 1)).map (·.data.toList) := by
  rw [List.drop_eq_getElem_cons h, List.map_cons]
theorem i8_small {n : Nat} (h : n ≤ 100) : IntKind.i8.wrap (n : Int) = (n : Int) := by
  have e : IntKind.i8.bits = 8 := rfl
  have s : IntKind.i8.signed = true := rfl
  unfold IntKind.wrap
  simp only [e, s]
  simp
  omega
theorem i8_int {n : Int} (h0 : 0 ≤ n) (h : n ≤ 100) : IntKind.i8.wrap n = n := by
  have := i8_small (n := n.toNat) (by omega)
  rwa [Int.toNat_of_nonneg h0] at this
def ansC (acc : List (S43)) : Option (List (S43)) → List (S43) × Int
  | some cs => if ((acc ++ cs).all okW && decide ((acc ++ cs).length ≤ 30)) = true then (acc ++ cs, 0) else ([], 5)
  | none => ([], 5)
def ansI (t : ByteArray) (acc : List (S43)) : Option (List (S43)) → List (S43) × Int
  | some cs => if acc.length + cs.length ≤ 30 then (if ansW (acc ++ cs) = t then (acc ++ cs, 0) else ([], 5)) else ([], 5)
  | none => ([], 5)
theorem cut_step (w : ByteArray) (h : w.size ≤ 1048576) : strings_Cut.f w (⟨#[47]⟩ : ByteArray) = some (⟨(Lib.cut w.data.toList [47]).1.toArray⟩, ⟨(Lib.cut w.data.toList [47]).2.1.toArray⟩, (Lib.cut w.data.toList [47]).2.2) := by
  unfold strings_Cut.f
  exact if_pos (by omega)
theorem cut_size (l : List UInt8) : (Lib.cut l [47]).1.length ≤ l.length ∧ (Lib.cut l [47]).2.1.length ≤ l.length := by
  rcases cut_is 47 l with ⟨_, e⟩ | ⟨a, b, e1, _, e⟩
  · rw [e]; simp
  · rw [e, e1]; simp; omega
theorem num_step (l : List UInt8) (h : l.length ≤ 1048576) : impl_number.f ⟨l.toArray⟩ = some (numP l) := by
  have hs : (⟨l.toArray⟩ : ByteArray).size = l.length := by rw [← sz_list]
  have hl : (⟨l.toArray⟩ : ByteArray).data.toList = l := rfl
  unfold impl_number.f
  rw [hs, hl]
  exact if_pos (by omega)
theorem in_step (n m : Int) : impl_within.f n 0 m = some (decide (0 ≤ n) && decide (n ≤ m)) := by
  unfold impl_within.f
  by_cases h : 0 ≤ n
  · rw [if_pos h]; simp [h]
  · rw [if_neg h]; simp [h]
theorem impl_rloop (t : ByteArray) (ws : List ByteArray) (hw : ws.length ≤ 2097152) (hz : ∀ w ∈ ws, w.size ≤ 1048576) : ∀ (n i : Nat) (acc : List (S43)), i + n = ws.length → acc.length = i → acc.length ≤ 30 → Evn (fun k => impl_ReadWeather.l0 k t acc ws ws.length i) (ansI t acc (leans ((ws.drop i).map (·.data.toList)))) := by
  intro n
  induction n with
  | zero =>
    intro i acc hi ha hm
    rw [List.drop_eq_nil_of_le (by omega)]
    refine Evn.succ ?_
    simp only [impl_ReadWeather.l0]
    refine Evn.neg (by omega) (Evn.bind (impl_weather acc (by omega)) ?_)
    have e : ansI t acc (leans (([] : List ByteArray).map (·.data.toList))) = if ansW acc = t then (acc, 0) else ([], 5) := by
      show (if acc.length + 0 ≤ 30 then (if ansW (acc ++ []) = t then (acc ++ [], 0) else ([], 5)) else ([], 5)) = _
      rw [if_pos (by omega), List.append_nil]
    rw [e]
    by_cases h : ansW acc = t
    · rw [if_pos h]
      exact Evn.pos (by rw [h]) (Evn.now _)
    · rw [if_neg h]
      refine Evn.neg (fun e => h ?_) (Evn.now _)
      rw [toList_is, toList_is] at e
      exact ba_ext e
  | succ n ih =>
    intro i acc hi ha hm
    have hlt : i < ws.length := by omega
    rw [drop_map ws i hlt]
    have hzi := hz _ (List.getElem_mem hlt)
    have w1 : wrap64 ((i : Int) + 1) = ((i + 1 : Nat) : Int) := by rw [wrap64_in (by omega) (by omega)]; omega
    have ci : (i : Int) < (ws.length : Int) := by omega
    have c0 : (0 : Int) ≤ (i : Int) := by omega
    have ih2 := fun acc ha hm => ih (i + 1) acc (by omega) ha hm
    obtain ⟨z1, z2⟩ := cut_size (ws[i]).data.toList
    rw [sz_list] at z1 z2
    have z1 := Nat.le_trans z1 hzi
    have z2 := Nat.le_trans z2 hzi
    refine Evn.succ ?_
    simp only [impl_ReadWeather.l0, rdO_is ws i hlt, cut_step _ hzi, num_step _ z1, num_step _ z2, in_step, Option.bind_some, w1]
    refine Evn.pos ci (Evn.pos c0 (Evn.pos ci ?_))
    have none_ : lean1 (ws[i]).data.toList = none → ansI t acc (leans ((ws[i]).data.toList :: (ws.drop (i + 1)).map (·.data.toList))) = ([], 5) := fun e => by
      simp only [leans, e]
      rfl
    have hl1 : lean1 (ws[i]).data.toList = if (0 ≤ numP (Lib.cut (ws[i]).data.toList [47]).1 ∧ numP (Lib.cut (ws[i]).data.toList [47]).1 ≤ 50) ∧ 0 ≤ numP (Lib.cut (ws[i]).data.toList [47]).2.1 ∧ numP (Lib.cut (ws[i]).data.toList [47]).2.1 ≤ 40 then some ⟨numP (Lib.cut (ws[i]).data.toList [47]).1, numP (Lib.cut (ws[i]).data.toList [47]).2.1⟩ else none := rfl
    generalize numP (Lib.cut (ws[i]).data.toList [47]).1 = x at hl1 ⊢
    generalize numP (Lib.cut (ws[i]).data.toList [47]).2.1 = y at hl1 ⊢
    clear z1 z2 hzi
    by_cases bx : 0 ≤ x ∧ x ≤ 50
    · by_cases by_ : 0 ≤ y ∧ y ≤ 40
      · rw [if_pos ⟨bx, by_⟩] at hl1
        refine Evn.pos (by simp [bx.1, bx.2]) (Evn.pos (by simp [by_.1, by_.2]) ?_)
        by_cases hmax : acc.length + 1 ≤ 30
        · have ee : ansI t acc (leans ((ws[i]).data.toList :: (ws.drop (i + 1)).map (·.data.toList))) = ansI t (acc ++ [⟨x, y⟩]) (leans ((ws.drop (i + 1)).map (·.data.toList))) := by
            simp only [leans, hl1, Option.bind_some]
            cases leans ((ws.drop (i + 1)).map (·.data.toList)) with
            | none => rfl
            | some cs =>
              simp only [Option.bind_some, ansI, List.length_append, List.length_cons, List.length_nil, List.append_assoc, List.cons_append, List.nil_append]
              simp only [show acc.length + (cs.length + 1) = acc.length + (0 + 1) + cs.length by omega]
          have h2 := ih2 (acc ++ [⟨x, y⟩]) (by simp [ha]) (by simp; omega)
          rw [ee]
          have cacc : acc.length < 70368744177664 := by omega
          rw [i8_int bx.1 (by omega), i8_int by_.1 (by omega)]
          exact Evn.neg (by omega) (Evn.pos cacc h2)
        · have ee : ansI t acc (leans ((ws[i]).data.toList :: (ws.drop (i + 1)).map (·.data.toList))) = ([], 5) := by
            simp only [leans, hl1, Option.bind_some]
            cases leans ((ws.drop (i + 1)).map (·.data.toList)) with
            | none => rfl
            | some cs =>
              simp only [Option.bind_some, ansI, List.length_cons]
              exact if_neg (by omega)
          rw [ee]
          exact Evn.pos (by omega) (Evn.now _)
      · rw [if_neg (fun h => by_ h.2)] at hl1
        rw [none_ hl1]
        refine Evn.pos (by simp [bx.1, bx.2]) (Evn.neg ?_ (Evn.now _))
        intro e
        rw [Bool.and_eq_true, decide_eq_true_eq, decide_eq_true_eq] at e
        exact by_ e
    · rw [if_neg (fun h => bx h.1)] at hl1
      rw [none_ hl1]
      refine Evn.neg ?_ (Evn.now _)
      intro e
      rw [Bool.and_eq_true, decide_eq_true_eq, decide_eq_true_eq] at e
      exact bx e
theorem text_of (cs : List (S43)) (h : cs.length ≤ 30) (hok : ∀ c ∈ cs, okW c = true) : ansW cs = jB (cs.map pcW) := by
  unfold ansW
  rw [if_pos]
  rw [Bool.and_eq_true, decide_eq_true_eq, List.all_eq_true]
  exact ⟨hok, h⟩
theorem both_same (t : ByteArray) (W : List (List UInt8)) (hW : spl 32 t.data.toList = W) : (ansC [] (canons W)) = ansI t [] (leans W) := by
  have hne : W ≠ [] := by rw [← hW]; exact spl_ne _ _
  have hjoin : Lib.join W [32] = t.data.toList := by rw [← hW]; exact join_spl 32 _ _ (Nat.le_refl _)
  cases hl : leans W with
  | none =>
    cases hc : canons W with
    | none => rfl
    | some cs => rw [(canons_is W cs hc).1] at hl; cases hl
  | some cs =>
    obtain ⟨l1, l2, l3, l4⟩ := leans_is W cs hl
    by_cases hm : cs.length ≤ 30
    · have ei : ansI t [] (some cs) = if ansW cs = t then (cs, 0) else ([], 5) := by
        show (if 0 + cs.length ≤ 30 then _ else _) = _
        rw [if_pos (by omega), List.nil_append]
      rw [ei, text_of cs hm l2]
      cases hc : canons W with
      | some ds =>
        obtain ⟨c1, c2, _⟩ := canons_is W ds hc
        obtain rfl : ds = cs := Option.some.inj (c1.symm.trans hl)
        have et : jB (ds.map pcW) = t := ba_ext (by
          rw [jB_list, List.map_map, ← hjoin, c2]
          rfl)
        rw [if_pos et]
        show (if (ds.all okW && decide (ds.length ≤ 30)) = true then (ds, (0 : Int)) else ([], 5)) = _
        rw [if_pos (by rw [Bool.and_eq_true, decide_eq_true_eq, List.all_eq_true]; exact ⟨l2, hm⟩)]
      | none =>
        have et : jB (cs.map pcW) ≠ t := by
          intro et
          have e2 : W = cs.map (fun c => (pcW c).data.toList) := by
            rw [← hW, ← et, jB_list, List.map_map]
            refine spl_join 32 _ ?_ ?_
            · intro e
              have := congrArg List.length e
              rw [List.length_map] at this
              have h0 : W.length ≠ 0 := fun e => hne (List.length_eq_zero_iff.1 e)
              simp at this
              rw [this] at l1
              simp at l1
              omega
            · intro w hw
              obtain ⟨c, hcm, rfl⟩ := List.mem_map.1 hw
              exact l4 c hcm
          rw [e2, l3] at hc
          cases hc
        rw [if_neg et]
        rfl
    · have ei : ansI t [] (some cs) = ([], 5) := by
        show (if 0 + cs.length ≤ 30 then _ else _) = _
        exact if_neg (by omega)
      rw [ei]
      cases hc : canons W with
      | none => rfl
      | some ds =>
        obtain rfl : ds = cs := Option.some.inj ((canons_is W ds hc).1.symm.trans hl)
        show (if (ds.all okW && decide (ds.length ≤ 30)) = true then (ds, (0 : Int)) else ([], 5)) = _
        rw [if_neg (by rw [Bool.and_eq_true, decide_eq_true_eq]; exact fun h => hm h.2)]
theorem words_is (t : ByteArray) (ht : t.size ≤ 1048576) : ∃ ws : List ByteArray, strings_Split.f t (⟨#[32]⟩ : ByteArray) = some ws ∧ ws.map (·.data.toList) = spl 32 t.data.toList := by
  refine ⟨_, ?_, splitB_is 32 t⟩
  unfold strings_Split.f
  exact if_pos ⟨by omega, by decide⟩
theorem words_in (t : ByteArray) (ht : t.size ≤ 1048576) (ws : List ByteArray) (h : ws.map (·.data.toList) = spl 32 t.data.toList) : ws.length ≤ 2097152 ∧ ∀ w ∈ ws, w.size ≤ 1048576 := by
  obtain ⟨h1, h2⟩ := spl_len 32 _ t.data.toList (Nat.le_refl _)
  rw [← h, List.length_map, sz_list] at h2
  refine ⟨by omega, fun w hw => ?_⟩
  have := h1 w.data.toList (by rw [← h]; exact List.mem_map_of_mem hw)
  rw [sz_list, sz_list] at this
  omega
end Go.Proofs.YtibpndhcijmhpaaGreatDoor.QG
