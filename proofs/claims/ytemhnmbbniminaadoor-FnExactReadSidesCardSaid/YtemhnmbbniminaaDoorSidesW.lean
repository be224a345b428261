/- Walks: sides as texts. -/
import Derived.Test.YtemhnmbbniminaaDoorBase
import Derived.Lib.Hide
import Derived.Test.YtemhnmbbniminaaDoorDecimal
import Derived.Test.YtemhnmbbniminaaDoorShelf
import Derived.Lib.LaidTab
import Derived.Lib.ItoaMem
namespace Go.Proofs.YtemhnmbbniminaaDoor.QV
set_option linter.unusedSimpArgs false
set_option linter.unusedVariables false
open Go.RowKit Go.Proofs.YtemhnmbbniminaaDoor.B Go.Proofs.YtemhnmbbniminaaDoorW.PrintWords Go.Proofs.YtemhnmbbniminaaDoorW.PrintLast Go.Proofs.YtemhnmbbniminaaDoorW.PrintMore

/-- The library's table of powers, as the call finds it. -/
def TB (w : World) : Prop := Lib.TabIs Tryd.prog w "internal/strconv.uint64pow10" .u64 Lib.pow10Tab
theorem tb_global : Tryd.prog.globalNamed "internal/strconv.uint64pow10" = some 1 := by kernel_rfl
theorem tb_any {w W : World} (h : TB w) (hb : Below w.heap.size w W) : TB W := by
  unfold TB Lib.TabIs World.var? at *
  rw [tb_global] at h ⊢
  simp only [Option.bind_some] at h ⊢
  cases e : w.heap[1]? with
  | none => rw [e] at h; cases h
  | some o =>
    have hlt : 1 < w.heap.size := by
      rcases Nat.lt_or_ge 1 w.heap.size with h' | h'
      · exact h'
      · simp [Array.getElem?_eq_none h'] at e
    rw [hb.block _ hlt]
    exact h
theorem itoa_dB (n : Int) (h0 : 0 ≤ n) : (⟨(Lib.itoa n).toArray⟩ : ByteArray) = dB n := by
  have := Lib.itoa_nonneg n.toNat
  rw [Int.toNat_of_nonneg h0] at this
  rw [this]
  rfl
theorem below_grow (w : World) (k : Nat) (os : Array Obj) : Below w.heap.size w (Go.Sort.grow (w.drewN k) os) := by
  refine ⟨rfl, rfl, rfl, ?_, fun i hi => ?_⟩
  · show w.heap.size ≤ (w.heap ++ os).size
    simp
  · show (w.heap ++ os)[i]? = _
    rw [Array.getElem?_append_left hi]
set_option maxHeartbeats 8000000 in
set_option maxRecDepth 100000 in
theorem dec_to (n : Int) (h0 : 0 ≤ n) (h1 : n ≤ 9223372036854775807) (w : World) (hT : TB w) :
    Calls Tryd.prog 25 #[.int .i64 n] w fun e w' => e = .returned (.string (dB n)) ∧ Below w.heap.size w w' := by
  have hs := Tryd.strconv_FormatInt_10 n (by omega) h1 w hT
  rw [itoa_dB n h0] at hs
  have HS := Aside0.mk hs
  clear hs hT h0 h1
  go_enter Tryd.func25, Tryd.ntmps25
  go_wp2_with (first | (go_at_call 38; refine HS.out.mono ?_; rintro e w1 ⟨rfl, kd, os, rfl⟩))
  go_ret
  exact ⟨rfl, below_grow _ _ _⟩
def inB (n : Int) : Bool := decide (0 ≤ n) && decide (n ≤ 400)
theorem inB_in {n : Int} (h : inB n = true) : 0 ≤ n ∧ n ≤ 400 := by
  unfold inB at h
  rwa [Bool.and_eq_true, decide_eq_true_eq, decide_eq_true_eq] at h
theorem in_s (n : Int) : spec_l00In.f n 0 400 = some (inB n) := by
  unfold spec_l00In.f inB
  by_cases h : n ≥ 0
  · rw [if_pos h]; simp [h]
  · rw [if_neg h]; simp [h]
theorem in_i (n : Int) : impl_within.f n 0 400 = some (inB n) := by
  unfold impl_within.f inB
  by_cases h : 0 ≤ n
  · rw [if_pos h]; simp [h]
  · rw [if_neg h]; simp [h]
def toldB (c : Nat → Int) : Bool := (List.range 5).all fun i => inB (c i)
theorem told_bad {c : Nat → Int} {i : Nat} (hi : i < 5) (h : inB (c i) = false) : toldB c = false := by
  unfold toldB
  rw [List.all_eq_false]
  exact ⟨i, by simpa using hi, by simp [h]⟩
theorem told_good {c : Nat → Int} (h : ∀ i, i < 5 → inB (c i) = true) : toldB c = true := by
  unfold toldB
  simp only [List.all_eq_true, List.mem_range]
  exact h
theorem told_in {c : Nat → Int} (h : toldB c = true) (i : Nat) (hi : i < 5) : inB (c i) = true := by
  unfold toldB at h
  simp only [List.all_eq_true, List.mem_range] at h
  exact h i hi
/-- The first k pieces. -/
def pcs (c : Nat → Int) (k : Nat) : List ByteArray := (List.range k).map fun i => dB (c i)
theorem pcs_len (c : Nat → Int) (k : Nat) : (pcs c k).length = k := by simp [pcs]
theorem pcs_succ (c : Nat → Int) (k : Nat) : pcs c (k + 1) = pcs c k ++ [dB (c k)] := by
  unfold pcs
  rw [List.range_succ, List.map_append]
  rfl
theorem pcs_size {c : Nat → Int} {k : Nat} (h : ∀ i, i < k → inB (c i) = true) : ∀ p ∈ pcs c k, p.size ≤ 3 := fun p hp => by
  unfold pcs at hp
  obtain ⟨i, hi, rfl⟩ := List.mem_map.1 hp
  have := inB_in (h i (List.mem_range.1 hi))
  exact dB_size _ (by omega)
def txt (c : Nat → Int) (k : Nat) : ByteArray := jB (pcs c k)
theorem txt_size {c : Nat → Int} {k : Nat} (hk : k ≤ 5) (h : ∀ i, i < k → inB (c i) = true) : (txt c k).size ≤ 20 := by
  have := jB_size (pcs c k) 3 (pcs_size h)
  rw [pcs_len] at this
  unfold txt
  omega
theorem txt_one (c : Nat → Int) : txt c 1 = dB (c 0) := jB_one _
theorem txt_succ (c : Nat → Int) (k : Nat) (h : 0 < k) : txt c (k + 1) = (txt c k ++ (⟨#[32]⟩ : ByteArray)) ++ dB (c k) := by
  unfold txt
  rw [pcs_succ, jB_snoc]
  intro e
  have := congrArg List.length e
  rw [pcs_len] at this
  simp at this
  omega
/-- The text of sides. -/
def ansS (c : Nat → Int) : ByteArray := if toldB c then txt c 5 else ⟨#[]⟩
theorem join5 (c : Nat → Int) (h : toldB c = true) : strings_Join.f (pcs c 5) (⟨#[32]⟩ : ByteArray) = some (txt c 5) := by
  have e : joinB (pcs c 5) (⟨#[32]⟩ : ByteArray) = txt c 5 := rfl
  unfold strings_Join.f
  rw [e]
  have := txt_size (c := c) (k := 5) (by omega) (fun i hi => told_in h i hi)
  exact if_pos ⟨by rw [pcs_len]; omega, by omega⟩

theorem z5 : arr .i64 5 (fun _ => 0) = #[.int .i64 0, .int .i64 0, .int .i64 0, .int .i64 0, .int .i64 0] := by kernel_rfl
theorem size5 : (Tryd.prog.info? 24).map (·.size) = some 5 := by kernel_rfl
theorem size5a : (Tryd.prog.info? 22).map (·.size) = some 5 := by kernel_rfl
set_option maxRecDepth 100000 in
set_option maxHeartbeats 1000000 in
theorem toSides (c : Nat → Int) (w : World) :
    Calls Tryd.prog 8 #[.agg (arr .i64 5 c)] w fun e w' => e = .returned (.agg (arr .i64 5 c)) ∧ Below w.heap.size w w' := by
  go_enter Tryd.func8, Tryd.ntmps8
  go_wp2
  rw [← z5, ← pref_zero .i64 5 c]
  go_loopw [4] (fun i wr => ∃ k : Nat, k ≤ 5 ∧ i = .int .i64 k ∧ wr = ((w.alloc (.cells (arr .i64 5 c) 22)).alloc (.cells (arr .i64 5 (pref c 0)) 24)).alloc (.cells (arr .i64 5 (pref c k)) 24)) (fun i _ => 5 - (intOf i).toNat)
  case atStart => exact ⟨0, by omega, rfl, rfl⟩
  case round =>
    obtain ⟨k, hk, rfl, rfl⟩ := hrel
    by_cases hlt : k < 5
    · have hg := arr_get (k := .i64) (c := c) hlt
      have hg2 := arr_get (k := .i64) (c := pref c k) hlt
      go_wp2
      exact ⟨⟨k + 1, by omega, by go_num, by rw [pref_step]⟩, by simp [intOf]; omega⟩
    · obtain rfl : k = 5 := by omega
      go_wp2_with (first | (refine loadRow 14 rfl rfl rfl rfl Tryd.underlying24 rfl (blkN (by simp)) (by rw [arr_size]; kernel_rfl) ?_) | (refine storeRow rfl rfl rfl rfl rfl (blkA (blkN (by simp))) (by rw [arr_size]; kernel_rfl) (by simp [arr_size]) (arr_one _ _ _) ?_; intro w1 hw1 hw2 hw3 hw4))
      exact retRow rfl rfl hw1 Tryd.underlying24 rfl (by rw [arr_size]; kernel_rfl) rfl ⟨by rw [pref_full], belT (belA (belA (belA (Below.refl _ _)))) hw3 (by omega)⟩

set_option maxRecDepth 100000 in
set_option maxHeartbeats 1000000 in
theorem sTold (c : Nat → Int) (g : Nat) (t : TypeId) (w : World) (hg : w.heap[g]? = some (.cells (arr .i64 5 c) t (0, 0))) :
    Calls Tryd.prog 22 #[.pointer (some ⟨g, 0, none⟩)] w fun e w' => e = .returned (.bool (toldB c)) ∧ Below w.heap.size w w' := by
  have hlt0 := blkLt hg
  go_enter Tryd.func22, Tryd.ntmps22
  go_wp2
  go_loopw [3] (fun i wr => ∃ j : Nat, j ≤ 5 ∧ i = .int .i64 j ∧ (∀ i, i < j → inB (c i) = true) ∧ Below w.heap.size w wr) (fun i _ => 5 - (intOf i).toNat)
  case atStart => exact ⟨0, by omega, rfl, fun i hi => by omega, Below.refl _ _⟩
  case round =>
    obtain ⟨j, hj, rfl, hall, hB⟩ := hrel
    have hgr := blkB hB hg hlt0
    by_cases hlt : j < 5
    · have hd : decide ((j : Int) < 5) = true := by simp; omega
      have c0 : wr.cell? ⟨g, j, none⟩ = some (.int .i64 (c j)) := (blkC hgr _).trans (arr_get hlt)
      have hI := fun w => spec_l00In.calls (c j) 0 400 _ w (in_s (c j))
      rcases twoways (inB (c j)) with b | b
      · rw [b] at hI
        go_wp2_with (first | (go_at_call 36; refine (hI _).mono ?_; rintro e w1 ⟨rfl, ⟨nd, rfl⟩⟩))
        go_ret
        exact ⟨by rw [told_bad hlt b]; rfl, by repeat (first | exact hB | apply below_alloc | apply pw_below_drewN | apply below_drew1)⟩
      · rw [b] at hI
        go_wp2_with (first | (go_at_call 36; refine (hI _).mono ?_; rintro e w1 ⟨rfl, ⟨nd, rfl⟩⟩))
        exact ⟨⟨j + 1, by omega, by go_num, fun i hi => (by by_cases e : i = j; exact e ▸ b; exact hall i (by omega)), by repeat (first | exact hB | apply below_alloc | apply pw_below_drewN | apply below_drew1)⟩, by simp [intOf]; omega⟩
    · go_wp2
      go_ret
      exact ⟨by rw [told_good (fun i hi => hall i (by omega))]; rfl, hB⟩

set_option maxRecDepth 100000 in
set_option maxHeartbeats 1000000 in
theorem sText (c : Nat → Int) (ht : toldB c = true) (g : Nat) (t : TypeId) (w : World) (hg : w.heap[g]? = some (.cells (arr .i64 5 c) t (0, 0))) :
    Calls Tryd.prog 23 #[.pointer (some ⟨g, 0, none⟩)] w fun e w' => e = .returned (.string (txt c 5)) ∧ Below w.heap.size w w' := by
  have hlt0 := blkLt hg
  have HT := Aside0.mk ht
  clear ht
  go_enter Tryd.func23, Tryd.ntmps23
  go_wp2
  go_loopw [3, 4] (fun v3 i wr => ∃ j : Nat, j ≤ 5 ∧ i = .int .i64 j ∧ v3 = .string (txt c j) ∧ Below w.heap.size w wr) (fun _ i _ => 5 - (intOf i).toNat)
  case atStart => exact ⟨0, by omega, rfl, rfl, Below.refl _ _⟩
  case round =>
    obtain ⟨j, hj, rfl, rfl, hB⟩ := hrel
    have hgr := blkB hB hg hlt0
    by_cases hlt : j < 5
    · have hd : decide ((j : Int) < 5) = true := by simp; omega
      have c0 : wr.cell? ⟨g, j, none⟩ = some (.int .i64 (c j)) := (blkC hgr _).trans (arr_get hlt)
      have hin := inB_in (told_in HT.out j hlt)
      obtain ⟨kd, hkd⟩ := Evn.ex (decimal_int (c j) hin.1 (by omega))
      have HD := Aside0.mk (fun w => spec_Decimal.calls kd (c j) _ w hkd)
      have hs := txt_size (c := c) (k := j) (by omega) (fun i hi => told_in HT.out i (by omega))
      have hz := dB_size (c j) (by omega)
      by_cases hj0 : j = 0
      · subst hj0
        have e1 := txt_one c
        have e0 : txt c 0 = (⟨#[]⟩ : ByteArray) := rfl
        rw [e0]
        clear hs
        generalize hdd : dB (c 0) = d at *
        have hd0 : decide ((0 : Int) < ((0 : Nat) : Int)) = false := rfl
        have z1 : (⟨#[]⟩ : ByteArray) ++ d = d := ba_ext (by simp [ByteArray.data_append])
        have z2 : (9223372036854775807 < d.size) = False := eq_false (by omega)
        have z3 : (9223372036854775807 < (⟨#[]⟩ : ByteArray).size + d.size) = False := eq_false (by have : (⟨#[]⟩ : ByteArray).size = 0 := rfl; omega)
        have z4 : (9223372036854775807 < 0 + d.size) = False := eq_false (by omega)
        have z5 : decide ((⟨#[]⟩ : ByteArray).size + d.size ≤ 9223372036854775807) = true := decide_eq_true (by have : (⟨#[]⟩ : ByteArray).size = 0 := rfl; omega)
        have E1 := Aside0.mk e1
        have Z1 := Aside0.mk z1
        clear e1 z1 hz hin hkd hdd
        go_wp2_with (first | (go_at_call 37; refine (HD.out _).mono ?_; rintro e w1 ⟨rfl, hb⟩))
        refine ⟨⟨1, by omega, by go_num, by rw [E1.out, Z1.out], belW (by repeat (first | exact hB | apply below_alloc | apply pw_below_drewN | apply below_drew1)) hb⟩, by simp [intOf]⟩
      · have e1 := txt_succ c j (by omega)
        generalize txt c j = o at *
        generalize dB (c j) = d at *
        have hd0 : decide ((0 : Int) < (j : Int)) = true := by simp; omega
        have z2 : (9223372036854775807 < o.size + 1) = False := eq_false (by omega)
        have z3 : (9223372036854775807 < o.size + 1 + d.size) = False := eq_false (by omega)
        have z0 : (o ++ (⟨#[32]⟩ : ByteArray)).size = o.size + 1 := by rw [ByteArray.size_append]; rfl
        have z4 : (9223372036854775807 < (o ++ (⟨#[32]⟩ : ByteArray)).size + d.size) = False := eq_false (by rw [z0]; omega)
        have E1 := Aside0.mk e1
        have M := Aside0.mk (show ((j : Int) + 1) = ((j + 1 : Nat) : Int) by omega)
        clear e1 z0 hz hin hkd hs
        go_wp2_with (first | (go_at_call 37; refine (HD.out _).mono ?_; rintro e w1 ⟨rfl, hb⟩))
        refine ⟨⟨j + 1, by omega, by go_num, by rw [E1.out], belW (by repeat (first | exact hB | apply below_alloc | apply pw_below_drewN | apply below_drew1)) hb⟩, by simp [intOf]; omega⟩
    · obtain rfl : j = 5 := by omega
      go_wp2
      go_ret
      exact ⟨rfl, hB⟩

set_option maxRecDepth 100000 in
set_option maxHeartbeats 1000000 in
theorem sSides (c : Nat → Int) (w : World) :
    Calls Tryd.prog 7 #[.agg (arr .i64 5 c)] w fun e w' => e = .returned (.string (ansS c)) ∧ Below w.heap.size w w' := by
  have HT := Aside0.mk (fun g t w hg => sTold c g t w hg)
  rcases twoways (toldB c) with b | b
  · have e : ansS c = ⟨#[]⟩ := by unfold ansS; rw [b]; rfl
    have E := Aside0.mk e
    rw [b] at HT
    clear e b
    go_enter Tryd.func7, Tryd.ntmps7
    go_wp2_with (first | (go_at_call 22; refine (HT.out _ _ _ (blkN rfl)).mono ?_; rintro e w1 ⟨rfl, hb⟩))
    go_ret
    exact ⟨by rw [E.out]; rfl, belW (belA (Below.refl _ _)) hb⟩
  · have e : ansS c = txt c 5 := by unfold ansS; rw [b]; rfl
    have E := Aside0.mk e
    have HX := Aside0.mk (fun g t w hg => sText c b g t w hg)
    rw [b] at HT
    clear e b
    go_enter Tryd.func7, Tryd.ntmps7
    go_wp2_with (first | (go_at_call 22; refine (HT.out _ _ _ (blkN rfl)).mono ?_; rintro e w1 ⟨rfl, hb⟩; have h1 : w1.heap[w.heap.size]? = some (.cells (arr .i64 5 c) 24 (0, 0)) := blkB hb (blkN rfl) (by simp)) | (go_at_call 23; refine (HX.out _ _ _ h1).mono ?_; rintro e w2 ⟨rfl, hb2⟩))
    go_ret
    exact ⟨by rw [E.out]; rfl, belW (belW (belA (Below.refl _ _)) hb) hb2⟩
end Go.Proofs.YtemhnmbbniminaaDoor.QV
