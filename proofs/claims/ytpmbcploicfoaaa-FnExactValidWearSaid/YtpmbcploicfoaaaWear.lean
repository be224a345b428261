/- Walks: which wear is valid. -/
import Derived.Test.YtpmbcploicfoaaaProg
import Derived.Test.YtpmbcploicfoaaaBase
import Derived.Lib.Hide
namespace Go.Proofs.Ytpmbcploicfoaaa.L
set_option linter.unusedSimpArgs false
set_option linter.unusedVariables false
open Go.RowKit Go.Proofs.Ytpmbcploicfoaaa.B

theorem zero5 : arr .i8 5 (fun _ => 0) = #[.int .i8 0, .int .i8 0, .int .i8 0, .int .i8 0, .int .i8 0] := by kernel_rfl

set_option maxRecDepth 100000 in
set_option maxHeartbeats 1000000 in
theorem toWear (c : Nat → Int) (w : World) :
    Calls Try.prog 17 #[.agg (arr .i8 5 c)] w fun e w' => e = .returned (.agg (arr .i8 5 c)) ∧ Below w.heap.size w w' := by
  go_enter Try.func17, Try.ntmps17
  go_wp2
  rw [← zero5, ← pref_zero .i8 5 c]
  go_loopw [4] (fun i wr => ∃ k : Nat, k ≤ 5 ∧ i = .int .i64 k ∧ wr = ((w.alloc (.cells (arr .i8 5 c) 41)).alloc (.cells (arr .i8 5 (pref c 0)) 43)).alloc (.cells (arr .i8 5 (pref c k)) 43)) (fun i _ => 5 - (intOf i).toNat)
  case atStart => exact ⟨0, by omega, rfl, rfl⟩
  case round =>
    obtain ⟨k, hk, rfl, rfl⟩ := hrel
    by_cases hlt : k < 5
    · have hg := arr_get (k := .i8) (c := c) hlt
      have hg2 := arr_get (k := .i8) (c := pref c k) hlt
      go_wp2
      exact ⟨⟨k + 1, by omega, by go_num, by rw [pref_step]⟩, by simp [intOf]; omega⟩
    · obtain rfl : k = 5 := by omega
      go_wp2_with (first | (refine loadRow 14 rfl rfl rfl rfl Try.underlying43 rfl (blkN (by simp)) (by rw [arr_size]; kernel_rfl) ?_) | (refine storeRow rfl rfl rfl rfl rfl (blkA (blkN (by simp))) (by rw [arr_size]; kernel_rfl) (by simp [arr_size]) (arr_one _ _ _) ?_; intro w1 hw1 hw2 hw3 hw4))
      exact retRow rfl rfl hw1 Try.underlying43 rfl (by rw [arr_size]; kernel_rfl) rfl ⟨by rw [pref_full], belT (belA (belA (belA (Below.refl _ _)))) hw3 (by omega)⟩

/-- Is a number a share of a hundred? -/
def cent (n : Int) : Bool := decide (0 ≤ n) && decide (n ≤ 100)
/-- Is the wear valid? -/
def wearB (c : Nat → Int) : Bool := (c 0 == 0) && (List.range 5).all fun i => cent (c i)
theorem wearB_bad {c : Nat → Int} {i : Nat} (hi : i < 5) (h : cent (c i) = false) : wearB c = false := by
  unfold wearB
  have : ((List.range 5).all fun i => cent (c i)) = false := by
    rw [List.all_eq_false]
    exact ⟨i, by simpa using hi, by simp [h]⟩
  simp [this]
theorem wearB_good {c : Nat → Int} (h : ∀ i, i < 5 → cent (c i) = true) : wearB c = (c 0 == 0) := by
  unfold wearB
  have : ((List.range 5).all fun i => cent (c i)) = true := by
    simp only [List.all_eq_true, List.mem_range]
    exact h
  simp [this]

set_option maxRecDepth 100000 in
set_option maxHeartbeats 1000000 in
theorem wear1 (n : Int) (h0 : -128 ≤ n) (h1 : n ≤ 127) (b : Bool) (hb : cent n = b) (w : World) :
    Calls Try.prog 28 #[.int .i8 n] w fun e w' => e = .returned (.bool (!b)) ∧ Below w.heap.size w w' := by
  subst hb
  have x1 : IntKind.i64.wrap n = n := IntWalk.i64_in _ (by omega)
  rcases twoways (decide (0 ≤ n)) with b1 | b1 <;> rcases twoways (decide (n ≤ 100)) with b2 | b2 <;>
  · go_enter Try.func28, Try.ntmps28
    go_wp2
    go_ret
    refine ⟨?_, ?_⟩
    · simp [cent]; simp at b1 b2; first | omega | simp [*]
    · first | exact Below.refl _ _ | exact belD (Below.refl _ _)

set_option maxRecDepth 100000 in
set_option maxHeartbeats 1000000 in
theorem wearIdx (c : Nat → Int) (hc : ∀ i, i < 5 → -128 ≤ c i ∧ c i ≤ 127) (g k : Nat) (t : TypeId) (w : World) (hg : w.heap[g]? = some (.cells (arr .i8 5 c) t (0, 0))) :
    Calls Try.prog 30 #[.slice (some ⟨g, 0, none⟩) 5 k, .func (.func 28) #[] #[]] w fun e w' => (∃ r : Int, e = .returned (.int .i64 r) ∧ ((r = -1 ∧ ∀ i, i < 5 → cent (c i) = true) ∨ (0 ≤ r ∧ ∃ i, i < 5 ∧ cent (c i) = false))) ∧ Below w.heap.size w w' := by
  go_enter Try.func30, Try.ntmps30
  go_wp2
  go_loopw [8] (fun i wr => ∃ j : Nat, j ≤ 5 ∧ i = .int .i64 j ∧ (∀ i, i < j → cent (c i) = true) ∧ Below w.heap.size w wr) (fun i _ => 5 - (intOf i).toNat)
  case atStart => exact ⟨0, by omega, rfl, fun i hi => by omega, Below.refl _ _⟩
  case round =>
    obtain ⟨j, hj, rfl, hall, hB⟩ := hrel
    have hlt0 := blkLt hg
    have hgr := blkB hB hg hlt0
    by_cases hlt : j < 5
    · have hd : decide ((j : Int) < 5) = true := by simp; omega
      have c0 : wr.cell? ⟨g, j, none⟩ = some (.int .i8 (c j)) := (blkC hgr _).trans (arr_get hlt)
      obtain ⟨h0, h1⟩ := hc j hlt
      rcases twoways (cent (c j)) with b | b
      · go_wp2_with (first | (go_at_call 28; refine (wear1 _ h0 h1 false b _).mono ?_; rintro e w1 ⟨rfl, hb1⟩))
        go_ret
        exact ⟨⟨j, rfl, Or.inr ⟨by omega, j, hlt, b⟩⟩, belW hB hb1⟩
      · go_wp2_with (first | (go_at_call 28; refine (wear1 _ h0 h1 true b _).mono ?_; rintro e w1 ⟨rfl, hb1⟩))
        exact ⟨⟨j + 1, by omega, by go_num, fun i hi => (by by_cases e : i = j; exact e ▸ b; exact hall i (by omega)), belW hB hb1⟩, by simp [intOf]; omega⟩
    · go_wp2
      go_ret
      exact ⟨⟨-1, rfl, Or.inl ⟨rfl, fun i hi => hall i (by omega)⟩⟩, hB⟩

set_option maxRecDepth 100000 in
set_option maxHeartbeats 1000000 in
theorem wearHas (c : Nat → Int) (hc : ∀ i, i < 5 → -128 ≤ c i ∧ c i ≤ 127) (g k : Nat) (t : TypeId) (w : World) (hg : w.heap[g]? = some (.cells (arr .i8 5 c) t (0, 0))) :
    Calls Try.prog 27 #[.slice (some ⟨g, 0, none⟩) 5 k, .func (.func 28) #[] #[]] w fun e w' => (∃ r : Bool, e = .returned (.bool r) ∧ ((r = false ∧ ∀ i, i < 5 → cent (c i) = true) ∨ (r = true ∧ ∃ i, i < 5 ∧ cent (c i) = false))) ∧ Below w.heap.size w w' := by
  have HI := Lib.hid (wearIdx c hc g k t w hg)
  go_enter Try.func27, Try.ntmps27
  go_wp2_with (first | (go_at_call 30; refine HI.out.mono ?_; rintro e w1 ⟨⟨r, rfl, hr⟩, hb1⟩))
  go_ret
  rcases hr with ⟨rfl, h⟩ | ⟨h0, h⟩
  · exact ⟨⟨false, rfl, Or.inl ⟨rfl, h⟩⟩, hb1⟩
  · exact ⟨⟨true, by simp [h0], Or.inr ⟨rfl, h⟩⟩, hb1⟩

set_option maxRecDepth 100000 in
set_option maxHeartbeats 1000000 in
theorem validWear (c : Nat → Int) (hc : ∀ i, i < 5 → -128 ≤ c i ∧ c i ≤ 127) (w : World) :
    Calls Try.prog 18 #[.agg (arr .i8 5 c)] w fun e w' => e = .returned (.bool (wearB c)) ∧ Below w.heap.size w w' := by
  have hH := wearHas c hc
  have HH := Lib.hid hH
  clear hH
  obtain ⟨v, hv⟩ : ∃ v, v = c 0 := ⟨_, rfl⟩
  have g0 := arr_get (k := .i8) (c := c) (n := 5) (i := 0) (by omega)
  rw [← hv] at g0
  have HV := Lib.hid hv
  clear hv
  rcases twoways (v == 0) with b | b
  · go_enter Try.func18, Try.ntmps18
    go_wp2
    go_ret
    exact ⟨by unfold wearB; rw [← HV.out, b]; rfl, belA (Below.refl _ _)⟩
  · go_enter Try.func18, Try.ntmps18
    go_wp2_with (first | (go_at_call 27; refine (HH.out _ _ _ _ (blkN rfl)).mono ?_; rintro e w1 ⟨⟨r, rfl, hr⟩, hb1⟩))
    go_ret
    rcases hr with ⟨rfl, h⟩ | ⟨rfl, i, hi, h⟩
    · exact ⟨by rw [wearB_good h, ← HV.out, b]; rfl, belW (belA (Below.refl _ _)) hb1⟩
    · exact ⟨by rw [wearB_bad hi h]; rfl, belW (belA (Below.refl _ _)) hb1⟩

set_option maxRecDepth 100000 in
set_option maxHeartbeats 1000000 in
theorem sIn100 (n : Int) (w : World) :
    Calls Try.prog 19 #[.int .i64 n, .int .i64 0, .int .i64 100] w fun e w' => e = .returned (.bool (cent n)) ∧ w' = w := by
  rcases twoways (decide (0 ≤ n)) with b1 | b1 <;> rcases twoways (decide (n ≤ 100)) with b2 | b2 <;>
  · go_enter Try.func19, Try.ntmps19
    go_wp2
    go_ret
    exact ⟨by simp [cent, b1, b2], rfl⟩

set_option maxRecDepth 100000 in
set_option maxHeartbeats 1000000 in
theorem sWear (c : Nat → Int) (hc : ∀ i, i < 5 → -128 ≤ c i ∧ c i ≤ 127) (g : Nat) (t : TypeId) (w : World) (hg : w.heap[g]? = some (.cells (arr .i8 5 c) t (0, 0))) :
    Calls Try.prog 26 #[.pointer (some ⟨g, 0, none⟩)] w fun e w' => e = .returned (.bool (wearB c)) ∧ Below w.heap.size w w' := by
  have hlt0 := blkLt hg
  go_enter Try.func26, Try.ntmps26
  go_wp2
  go_loopw [3] (fun i wr => ∃ j : Nat, j ≤ 5 ∧ i = .int .i64 j ∧ (∀ i, i < j → cent (c i) = true) ∧ Below w.heap.size w wr) (fun i _ => 5 - (intOf i).toNat)
  case atStart => exact ⟨0, by omega, rfl, fun i hi => by omega, Below.refl _ _⟩
  case round =>
    obtain ⟨j, hj, rfl, hall, hB⟩ := hrel
    have hgr := blkB hB hg hlt0
    by_cases hlt : j < 5
    · have hd : decide ((j : Int) < 5) = true := by simp; omega
      have c0 : wr.cell? ⟨g, j, none⟩ = some (.int .i8 (c j)) := (blkC hgr _).trans (arr_get hlt)
      obtain ⟨h0, h1⟩ := hc j hlt
      have x1 : IntKind.i64.wrap (c j) = c j := IntWalk.i64_in _ (by omega)
      have hI := sIn100 (c j)
      rcases twoways (cent (c j)) with b | b
      · rw [b] at hI
        go_wp2_with (first | (go_at_call 19; refine (hI _).mono ?_; rintro e w1 ⟨rfl, rfl⟩))
        go_ret
        exact ⟨by rw [wearB_bad hlt b]; rfl, by first | exact hB | exact belD hB⟩
      · rw [b] at hI
        go_wp2_with (first | (go_at_call 19; refine (hI _).mono ?_; rintro e w1 ⟨rfl, rfl⟩))
        exact ⟨⟨j + 1, by omega, by go_num, fun i hi => (by by_cases e : i = j; exact e ▸ b; exact hall i (by omega)), by first | exact hB | exact belD hB⟩, by simp [intOf]; omega⟩
    · obtain ⟨v, hv⟩ : ∃ v, v = c 0 := ⟨_, rfl⟩
      have c0 : wr.cell? ⟨g, 0, none⟩ = some (.int .i8 (c 0)) := (blkC hgr _).trans (arr_get (by omega))
      rw [← hv] at c0
      have HV := Lib.hid hv
      clear hv
      go_wp2
      go_ret
      exact ⟨by rw [wearB_good (fun i hi => hall i (by omega)), ← HV.out]; rfl, hB⟩

set_option maxRecDepth 100000 in
set_option maxHeartbeats 1000000 in
theorem sValidWear (c : Nat → Int) (hc : ∀ i, i < 5 → -128 ≤ c i ∧ c i ≤ 127) (w : World) :
    Calls Try.prog 16 #[.agg (arr .i8 5 c)] w fun e w' => e = .returned (.bool (wearB c)) ∧ Below w.heap.size w w' := by
  go_enter Try.func16, Try.ntmps16
  go_wp2_with (first | (go_at_call 26; refine (sWear c hc _ _ _ (blkN rfl)).mono ?_; rintro e w1 ⟨rfl, hb⟩))
  go_ret
  exact ⟨rfl, belW (belA (Below.refl _ _)) hb⟩

set_option maxRecDepth 100000 in
set_option maxHeartbeats 1000000 in
theorem lawWear (c : Nat → Int) (hc : ∀ i, i < 5 → -128 ≤ c i ∧ c i ≤ 127) (w : World) :
    Calls Try.prog 7 #[.agg (arr .i8 5 c)] w fun e w' => e = .returned (.bool true) ∧ Below w.heap.size w w' := by
  go_enter Try.func7, Try.ntmps7
  go_wp2_with (first | (refine loadRow 5 rfl rfl rfl rfl Try.underlying41 rfl (blkN rfl) (by rw [arr_size]; kernel_rfl) ?_) | (refine loadRow 8 rfl rfl rfl rfl Try.underlying41 rfl h2 (by rw [arr_size]; kernel_rfl) ?_) | (go_at_call 17; refine (toWear _ _).mono ?_; rintro e w1 ⟨rfl, hb⟩; first | (have hB := belW (belA (Below.refl w.heap.size w)) hb; have h1 : w1.heap[w.heap.size]? = some (.cells (arr .i8 5 c) 41 (0, 0)) := blkB hb (blkN rfl) (by simp)) | (have hB3 := belW hB2 hb)) | (go_at_call 16; refine (sValidWear _ hc _).mono ?_; rintro e w1 ⟨rfl, hb⟩; have hB2 := belW hB hb; have h2 := blkB hb h1 (blkLt h1)) | (go_at_call 18; refine (validWear _ hc _).mono ?_; rintro e w1 ⟨rfl, hb⟩; have hB4 := belW hB3 hb))
  go_ret
  exact ⟨rfl, hB4⟩
end Go.Proofs.Ytpmbcploicfoaaa.L
