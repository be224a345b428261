/- Walks: the cells of a kind; the program's. -/
import Derived.Test.YtefdnnjnmgnnpaaKeep
import Derived.Lib.SliceRun
namespace Go.Proofs.Ytefdnnjnmgnnpaa.L
set_option linter.unusedSimpArgs false
set_option linter.unusedVariables false
open Go.RowKit Go.Proofs.Ytefdnnjnmgnnpaa.B

set_option maxRecDepth 100000 in
set_option maxHeartbeats 2000000 in
theorem holdC (L : Lw) (hL : Lw.Ok L) (k : Int) (x y : Nat) (hx : x < 10) (hy : y < 10) (b : Bool) (hb : (L.c (y * 10 + x) == k) = b) (gl gk : Nat) (w : World) (hl : w.heap[gl]? = some (.cells L.cells 28 (0, 0))) (hk : w.heap[gk]? = some (.cells #[.int .i64 k] 2 (0, 0))) :
    Calls Try.prog 44 #[.agg #[.int .i8 x, .int .i8 y], .pointer (some ⟨gl, 0, none⟩), .pointer (some ⟨gk, 0, none⟩)] w fun e w' => e = .returned (.bool b) ∧ Below w.heap.size w w' := by
  have HK := Lib.hid (fun (w : World) => kind L hL x y hx hy w)
  have HB := Lib.hid hb
  clear hb
  go_enter Try.func44, Try.ntmps44
  go_wp2
  refine wp_region_held_drew (S := fun w' => Below w.heap.size w w' ∧ w'.heap[gl]? = some (.cells L.cells 28 (0, 0)) ∧ w'.heap[w.heap.size]? = some (.cells #[.int .i8 x, .int .i8 y] 44 (0, 0)) ∧ w'.heap[gk]? = some (.cells #[.int .i64 k] 2 (0, 0))) (by kernel_rfl) ⟨belD (belA (Below.refl _ _)), blkD (blkA hl), blkD (blkN rfl), blkD (blkA hk)⟩ (fun hS => ?_)
  refine takeRow 0 rfl rfl (by kernel_rfl) (by kernel_rfl) (by kernel_rfl) (fun _ _ _ h => h) rfl rfl rfl Try.underlying28 rfl (fun w h => h.2.1) (by rw [Lw.size]; exact size28) hS ?_
  simp only [Act.put, List.setIfInBounds_toArray, List.set_cons_zero, List.set_cons_succ]
  refine takeRow 1 rfl rfl (by kernel_rfl) (by kernel_rfl) (by kernel_rfl) (fun _ _ _ h => h) rfl rfl rfl Try.underlying44 rfl (fun w h => h.2.2.1) (by kernel_rfl) hS ?_
  simp only [Act.put, List.setIfInBounds_toArray, List.set_cons_zero, List.set_cons_succ]
  refine takeAny 3 (dN := some 8) (v := ?v1_3_3) rfl rfl (by kernel_rfl) (by kernel_rfl) (by kernel_rfl) (fun _ _ _ h => h) (.inl ⟨rfl, fun w' hSw => ?h1_3_3⟩) hS ?_
  case h1_3_3 => ((have c3 : w'.cell? ⟨gk, 0, none⟩ = some (.int .i64 k) := (blkC hSw.2.2.2 0).trans rfl); go_simp; first | done | with_reducible rfl)
  simp only [Act.put, List.setIfInBounds_toArray, List.set_cons_zero, List.set_cons_succ]
  refine wpAnyH_ready (rs := [2]) (by kernel_rfl) (by simp) (AllReadyH.cons rfl (fun K hK => ?_) AllReadyH.nil)
  go_simp
  go_at_call 23
  refine (HK.out _).mono ?_
  rintro e w1_2 ⟨rfl, hb⟩
  refine hK.out _ _ ⟨belW hS.1 hb, blkB hb hS.2.1 (blkLt hS.2.1), blkB hb hS.2.2.1 (blkLt hS.2.2.1), blkB hb hS.2.2.2 (blkLt hS.2.2.2)⟩ (fun hS => ?_)
  clear hb hK
  refine takeAny 4 (dN := some 9) (v := ?v1_4_5) rfl rfl (by kernel_rfl) (by kernel_rfl) (by kernel_rfl) (fun _ _ _ h => h) (.inl ⟨rfl, fun w' hSw => ?h1_4_5⟩) hS ?_
  case h1_4_5 => (go_simp; first | done | with_reducible rfl)
  simp only [Act.put, List.setIfInBounds_toArray, List.set_cons_zero, List.set_cons_succ]
  refine takeAny 5 (dN := some 4) (v := ?v1_5_6) rfl rfl (by kernel_rfl) (by kernel_rfl) (by kernel_rfl) (fun _ _ _ h => h) (.inl ⟨rfl, fun w' hSw => ?h1_5_6⟩) hS ?_
  case h1_5_6 => (go_simp; first | done | with_reducible rfl)
  simp only [Act.put, List.setIfInBounds_toArray, List.set_cons_zero, List.set_cons_succ]
  refine wpAnyH_done (by kernel_rfl) ?_ _
  go_wp2
  go_ret
  exact ⟨by rw [← HB.out]; rfl, hS.1⟩

theorem pairRow {w : World} {g o : Nat} {t : TypeId} {cs : Array Value} (h : w.heap[g]? = some (.cells cs t (0, 0))) {a : Value} (ha : cs[o]? = some a) : w.cell? ⟨g, o, none⟩ = some a := (blkC h o).trans ha
set_option maxRecDepth 100000 in
set_option maxHeartbeats 2000000 in
/-- The closure that says no. -/
theorem those1 (f : Value) (b : Bool) (x y : Nat) (gh : Nat) (w : World) (hh : w.heap[gh]? = some (.cells #[f] 61 (0, 0))) (gl gk : Nat) (hf : f = .func (.func 44) #[] #[.pointer (some ⟨gl, 0, none⟩), .pointer (some ⟨gk, 0, none⟩)])
    (hc : ∀ W, Below w.heap.size w W → Calls Try.prog 44 #[.agg #[.int .i8 x, .int .i8 y], .pointer (some ⟨gl, 0, none⟩), .pointer (some ⟨gk, 0, none⟩)] W fun e w' => e = .returned (.bool b) ∧ Below W.heap.size W w') :
    Calls Try.prog 47 #[.agg #[.int .i8 x, .int .i8 y], .pointer (some ⟨gh, 0, none⟩)] w fun e w' => e = .returned (.bool (!b)) ∧ Below w.heap.size w w' := by
  subst hf
  have h1 := pairRow (blkA (o' := .cells #[.int .i8 x, .int .i8 y] 44) hh) (o := 0) rfl
  have HC := Lib.hid (hc _ (belA (Below.refl _ _) (o := .cells #[.int .i8 x, .int .i8 y] 44)))
  clear hc hh
  go_enter Try.func47, Try.ntmps47
  go_wp2_with (first | (go_at_call 44; refine HC.out.mono ?_; rintro e w1 ⟨rfl, hb⟩))
  go_ret
  exact ⟨rfl, belW (belA (Below.refl _ _)) hb⟩

/-- Where the first stands for which p says no. -/
def IdxPost (p : Nat → Bool) (N : Nat) (w : World) (e : Ending) (w' : World) : Prop := ∃ r : Int, e = .returned (.int .i64 r) ∧ ((r = -1 ∧ ∀ k, k < N → p k = true) ∨ (∃ i : Nat, r = i ∧ i < N ∧ p i = false ∧ ∀ k, k < i → p k = true)) ∧ Below w.heap.size w w'
def Cells2 (W N : Nat) (cur : Array Value) (j : Nat) : Prop := ∀ k, j ≤ k → k < N → cur[k * 2]? = some (.int .i8 ((k % W : Nat) : Int)) ∧ cur[k * 2 + 1]? = some (.int .i8 ((k / W : Nat) : Int))
/-- What is asked of the closure. -/
def DelC (W N g gh : Nat) (p : Nat → Bool) (w0 : World) : Prop := ∀ k, k < N → ∀ w, Below g w0 w → Calls Try.prog 47 #[.agg #[.int .i8 ((k % W : Nat) : Int), .int .i8 ((k / W : Nat) : Int)], .pointer (some ⟨gh, 0, none⟩)] w fun e w' => e = .returned (.bool (!(p k))) ∧ Below w.heap.size w w'

set_option maxRecDepth 100000 in
set_option maxHeartbeats 2000000 in
theorem indexDel (W N g gh cap : Nat) (p : Nat → Bool) (cur : Array Value) (w0 w : World) (hN : N ≤ 100) (h0 : Below g w0 w) (hg : w.heap[g]? = some (.cells cur 44 (0, 0))) (hc : Cells2 W N cur 0) (hd : DelC W N g gh p w0) :
    Calls Try.prog 45 #[.slice (some ⟨g, 0, none⟩) N cap, .func (.func 47) #[] #[.pointer (some ⟨gh, 0, none⟩)]] w (IdxPost p N w) := by
  have HC := Lib.hid hc
  have HD := Lib.hid hd
  have H0 := Lib.hid h0
  have HG := Lib.hid hg
  have hgl := blkLt hg
  clear hc hd h0 hg
  go_enter Try.func45, Try.ntmps45
  go_wp2
  go_loopw [8] (fun i wr => ∃ k : Nat, k ≤ N ∧ i = .int .i64 k ∧ (∀ j, j < k → p j = true) ∧ Below w.heap.size w wr) (fun i _ => N - (intOf i).toNat)
  case atStart => exact ⟨0, by omega, rfl, fun j hj => by omega, Below.refl _ _⟩
  case round =>
    obtain ⟨k, hk, rfl, hp, hB⟩ := hrel
    have HP := Lib.hid hp
    clear hp
    by_cases hlt : k < N
    · have hd : decide ((k : Int) < N) = true := by simp; omega
      have hdn : decide (k < N) = true := by simp; omega
      obtain ⟨q0, q1⟩ := HC.out k (by omega) hlt
      have r0 := pairRow (blkB hB HG.out hgl) q0
      have r1 := pairRow (blkB hB HG.out hgl) q1
      have HX := HD.out k hlt wr (H0.out.trans (hB.mono (Nat.le_of_lt hgl)))
      obtain ⟨x, hx⟩ : ∃ x, x = k % W := ⟨_, rfl⟩
      obtain ⟨y, hy⟩ : ∃ y, y = k / W := ⟨_, rfl⟩
      rw [← hx] at r0 HX
      rw [← hy] at r1 HX
      clear hx hy q0 q1
      cases hpk : p k with
      | true =>
        rw [hpk] at HX
        have HX := Lib.hid HX
        have HP2 := Lib.hid hpk
        clear hpk
        go_wp2_with (first | (go_at_call 47; refine HX.out.mono ?_; rintro e w1 ⟨rfl, hb⟩))
        refine ⟨?_, by simp [intOf]; omega⟩
        have hall : ∀ j, j < k + 1 → p j = true := fun j hj => by
          by_cases e : j = k
          · rw [e]; exact HP2.out
          · exact HP.out j (by omega)
        first | exact ⟨k + 1, by omega, by go_num, hall, belW hB hb⟩ | ((repeat (apply Exists.intro)); exact ⟨⟨k + 1, by omega, by go_num, hall, belW hB hb⟩, rfl⟩)
      | false =>
        rw [hpk] at HX
        have HX := Lib.hid HX
        have HP2 := Lib.hid hpk
        clear hpk
        go_wp2_with (first | (go_at_call 47; refine HX.out.mono ?_; rintro e w1 ⟨rfl, hb⟩))
        go_ret
        exact ⟨k, rfl, .inr ⟨k, rfl, hlt, HP2.out, HP.out⟩, belW hB hb⟩
    · have hd : decide ((k : Int) < N) = false := by simp; omega
      have hdn : decide (k < N) = false := by simp; omega
      have e : k = N := by omega
      have E := Lib.hid e
      clear e
      go_wp2
      go_ret
      exact ⟨-1, rfl, .inl ⟨rfl, fun j hj => HP.out j (by rw [E.out]; exact hj)⟩, hB⟩
end Go.Proofs.Ytefdnnjnmgnnpaa.L
