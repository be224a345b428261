/- Walks: printed by a program of this session; nothing here is trusted. -/
import Derived.Test.YtkebohpfneiimaaQMx0
import Derived.Test.YtkebohpfneiimaaQMx2
namespace Go.Proofs.Ytkebohpfneiimaa.QM
open Go.RowKit Go.Proofs.YtkebohpfneiimaaW.PrintWords Go.Proofs.YtkebohpfneiimaaW.PrintLast Go.Proofs.YtkebohpfneiimaaW.PrintMore
attribute [local go_sem] max2_int min2_int max_two min_two max_three min_three max_four min_four   -- for this text's walks alone
set_option linter.unusedVariables false
set_option linter.unusedSimpArgs false

/-! ### impl.BestCut, by hand: the planner's least over its memory -/
section
open Go Go.RowKit Go.Proofs.Ytkebohpfneiimaa.B

def grOf (x : S43) : Int := (impl_Weather_grows.f x.f0 x.f1).getD 0
theorem grOf_is (x : S43) : impl_Weather_grows.f x.f0 x.f1 = some (grOf x) := rfl
theorem drop_gr (xs : List (S43)) (d : Nat) (h : d < xs.length) : (xs.map grOf).drop d = grOf (rd_T43 xs d) :: (xs.map grOf).drop (d + 1) := by
  rw [List.drop_eq_getElem_cons (by simpa using h)]
  unfold rd_T43
  simp [List.getElem?_eq_getElem h]
theorem rd_mem (xs : List (S43)) (d : Nat) (h : d < xs.length) : rd_T43 xs d ∈ xs := by
  unfold rd_T43
  simp [List.getElem?_eq_getElem h]
/-- How many stores at most. -/
def cntL : Nat → Nat
  | 0 => 0
  | n + 1 => 2 * cntL n + 1
/-- The planner as it stands. -/
structure PS (cut most : Int) (gs : List Int) (A : Option Addr) (ln cp p bm bc N : Nat) (w : World) : Prop where
  cells : w.heap[p]? = some (.cells #[.int .i64 cut, .int .i64 most, .slice A ln cp, .map (some bm), .map (some bc)] 60 (0, 0))
  memo : ∃ D, w.ownsMap Try.prog 61 (plainElem (H := Unit) Try.prog 2) bm N D ∧ Memo cut most gs D
section
variable {cut most : Int} {gs : List Int} {A : Option Addr} {ln cp p bm bc N : Nat} {w w1 : World}
theorem PS.lt (S : PS cut most gs A ln cp p bm bc N w) : bm < w.heap.size := by
  obtain ⟨D, ho, _⟩ := S.memo
  exact ho.lt
theorem PS.ne (S : PS cut most gs A ln cp p bm bc N w) : bm ≠ p := by
  obtain ⟨D, ⟨es, clock, hb, _⟩, _⟩ := S.memo
  intro e
  subst e
  rw [S.cells] at hb
  cases hb
theorem own_below {P : Program} {k : TypeId} {R : Value → Option (DataW Unit × List MemPlace)} {b n : Nat} {D : DataW Unit} (h : w.ownsMap P k R b n D) (hb : Below w.heap.size w w1) : w1.ownsMap P k R b n D := by
  have hlt := h.lt
  obtain ⟨es, clock, h1, F, hs, hD⟩ := h
  exact ⟨es, clock, (hb.block b hlt).trans h1, F, hs, hD⟩
theorem PS.below (S : PS cut most gs A ln cp p bm bc N w) (hb : Below w.heap.size w w1) : PS cut most gs A ln cp p bm bc N w1 := by
  obtain ⟨D, ho, hm⟩ := S.memo
  exact ⟨blkB hb S.cells (blkLt S.cells), D, own_below ho hb, hm⟩
theorem PS.mono (S : PS cut most gs A ln cp p bm bc N w) {M : Nat} (h : N ≤ M) : PS cut most gs A ln cp p bm bc M w := by
  obtain ⟨D, ho, hm⟩ := S.memo
  exact ⟨S.cells, D, ho.mono h, hm⟩
theorem below_grown (hb : Below w.heap.size w w1) (b : Option Nat) : w.grownBy w1 b := ⟨hb.os, hb.tape, hb.output, hb.size, fun k hk _ => hb.block k hk⟩
theorem grown_trans {a b c : World} {r : Option Nat} (h : a.grownBy b r) (k : b.grownBy c r) : a.grownBy c r := h.trans k
theorem grown_blk {r : Nat} {o : Obj} {g : Nat} (hg : w.grownBy w1 (some r)) (h : w.heap[g]? = some o) (hne : g ≠ r) : w1.heap[g]? = some o := (hg.block g (blkLt h) (by simpa using hne)).trans h
end
theorem mapStep {P : Program} {ops : Array Oper} {o : Oper} {a : Act} {W : World} {Q : Exit → Act → World → Prop} {H : Type} {K : Act → World → Prop} {t k e : TypeId} {m x v : Operand} (hw : Region.wanted o (yielded ops a.tmps) = true) (hN : o.dst = none) (hop : o.op = .mapUpdate t m x v)
    (K0 : Maps.Keyed P k) (ht : P.underlying t = some (.map k e)) {R : Value → Option (DataW H × List MemPlace)} {b n : Nat} {D : DataW H} (hm : a.eval m = .map (some b)) (hown : W.ownsMap P k R b n D) (hn : n < maxLen) {key val : Value} {kl : Lit} (hx : a.eval x = key) (hv : a.eval v = val)
    (hkey : keyOf P k key = some kl) {d : DataW H} {ps : List MemPlace} (hval : R val = some (d, ps)) (hK : ∀ w', w'.ownsMap P k R b (n + 1) (D.put kl d) → W.grownBy w' (some b) → K a w') :
    if Region.wanted o (yielded ops a.tmps) = true then Oper.wp P o a W K Q else K (a.put o.dst undef) W := by
  rw [if_pos hw]
  obtain ⟨w', hrun, r1, r2⟩ := hown.update K0 ht hn hkey hval
  unfold Oper.wp
  simp [execOp, hop, hm, hx, hv, hrun, Result.andThen]
  show K (a.put o.dst undef) _
  rw [hN]
  exact hK _ r1 r2
theorem wfi {n : Int} (h0 : -1000000 ≤ n) (h1 : n ≤ 1000000) : wfI n := by
  have e1 : IntKind.i64.min = -9223372036854775808 := rfl
  have e2 : IntKind.i64.max = 9223372036854775807 := rfl
  simp only [wfI, Lit.wf, Bool.and_eq_true, decide_eq_true_eq, e1, e2]
  omega
theorem sizeK : (Try.prog.info? 61).map (·.size) = some 2 := by kernel_rfl
theorem zeroI (w : World) : (zeroValue 2).run Try.prog w = .ok (.int .i64 0) w := by kernel_rfl
set_option maxRecDepth 100000 in
set_option maxHeartbeats 4000000 in
theorem leastW (cut most : Int) (hc0 : 0 ≤ cut) (hc1 : cut ≤ 200) (hm0 : 0 ≤ most) (hm1 : most ≤ 200) (xs : List (S43)) (hx : xs.length ≤ 30) (hg : ∀ x ∈ xs, 0 ≤ grOf x ∧ grOf x ≤ 24) (A : Option Addr) (cp p bm bc : Nat) (wB : World) (hr0 : Kd.C k43 wB A xs.length xs) (hpB : wB.heap.size ≤ p) (hbB : wB.heap.size ≤ bm) :
    ∀ (n d : Nat), d + n = xs.length → ∀ (h : Int), 0 ≤ h → h ≤ 200 → ∀ (N : Nat), N + cntL n ≤ 1000000000000 → ∀ w : World, Below wB.heap.size wB w → PS cut most (xs.map grOf) A xs.length cp p bm bc N w →
    Calls Try.prog 24 #[.pointer (some ⟨p, 0, none⟩), .int .i64 d, .int .i64 h] w fun e w' => e = .returned (.int .i64 (leastP cut most ((xs.map grOf).drop d) h)) ∧ PS cut most (xs.map grOf) A xs.length cp p bm bc (N + cntL n) w' ∧ w.grownBy w' (some bm) := by
  intro n
  induction n with
  | zero =>
    intro d hd h h0 h1 N hN w hB S
    obtain rfl : d = xs.length := by omega
    have c2 := (blkC S.cells 2).trans rfl
    have e : leastP cut most ((xs.map grOf).drop xs.length) h = 0 := by rw [List.drop_eq_nil_of_le (by simp)]; rfl
    rw [e]
    have HS := Aside0.mk S
    clear S hg
    go_enter Try.func24, Try.ntmps24
    go_wp2
    go_ret
    exact ⟨rfl, HS.out.mono (by omega), World.grownBy.refl _ _⟩
  | succ n ih =>
    intro d hd h h0 h1 N hN w hB S
    have IH := Aside0.mk ih
    have HG := Aside0.mk hg
    have HR0 := Aside0.mk hr0
    have HB := Aside0.mk hB
    have HS := Aside0.mk S
    have dlt : d < xs.length := by omega
    have he : ((d : Int) == (xs.length : Int)) = false := by simp; omega
    have hen : (d == xs.length) = false := by simp; omega
    have hed : decide (d = xs.length) = false := by simp; omega
    have c2 := (blkC S.cells 2).trans rfl
    have DR := Aside0.mk (drop_gr xs d dlt)
    clear ih hg hr0 hB S
    go_enter Try.func24, Try.ntmps24
    go_wp2
    have hb1 : Below w.heap.size w (w.alloc (.cells #[.int .i64 d, .int .i64 h] 61)).drew := belD (belA (Below.refl _ _))
    have S1 := HS.out.below hb1
    have k1 : (w.alloc (.cells #[.int .i64 d, .int .i64 h] 61)).drew.heap[w.heap.size]? = some (.cells #[.int .i64 d, .int .i64 h] 61 (0, 0)) := blkD (blkN rfl)
    have c3 : (w.alloc (.cells #[.int .i64 d, .int .i64 h] 61)).drew.cell? ⟨p, 3, none⟩ = some (.map (some bm)) := (blkC S1.cells 3).trans rfl
    obtain ⟨D, ho, hM⟩ := S1.memo
    have wd : wfI (d : Int) := wfi (by omega) (by omega)
    have wh : wfI h := wfi (by omega) (by omega)
    obtain ⟨v, ps, LK, hv⟩ := ho.look_ok arrK Try.underlying57 (zeroI _) (plainElem_int Try.underlying2 (by decide)) (keyL_is wd wh)
    obtain ⟨c, rfl, hc, _⟩ := plainElem_int_inv Try.underlying2 hv
    have hc' : D.atKey (keyL d h) (.lit (.int .i64 0)) = .lit (.int .i64 c) := congrArg Prod.fst hc
    rcases twoways (Maps.has D (keyL d h)) with b | b
    case inr =>
      rw [b] at LK
      have E := Aside0.mk (hM.read wd wh b hc')
      have HS1 := Aside0.mk S1
      have HB1 := Aside0.mk hb1
      clear hb1 S1 hM ho hv hc hc' b wd wh
      refine wp_region_held_drew (S := fun w' => w'.cell? ⟨p, 3, none⟩ = some (.map (some bm)) ∧ w'.heap[w.heap.size]? = some (.cells #[.int .i64 d, .int .i64 h] 61 (0, 0)) ∧ (Instr.lookup 57 (.map (some bm)) (.agg #[.int .i64 d, .int .i64 h]) true).run Try.prog w' = .ok (.tuple #[.int .i64 c, .bool true]) w') (by kernel_rfl) ⟨c3, k1, LK⟩ (fun hS => ?_)
      refine takeAny 0 (dN := some 24) (v := ?v1_0_1) rfl rfl (by kernel_rfl) (by kernel_rfl) (by kernel_rfl) (fun _ _ _ h => h) (.inl ⟨rfl, fun w' hSw => ?h1_0_1⟩) hS ?_
      case h1_0_1 => (go_simp; first | done | with_reducible rfl)
      simp only [Act.put, List.setIfInBounds_toArray, List.set_cons_zero, List.set_cons_succ]
      refine takeAny 1 (dN := some 25) (v := ?v1_1_2) rfl rfl (by kernel_rfl) (by kernel_rfl) (by kernel_rfl) (fun _ _ _ h => h) (.inl ⟨rfl, fun w' hSw => ?h1_1_2⟩) hS ?_
      case h1_1_2 => (go_simp; first | done | with_reducible rfl)
      simp only [Act.put, List.setIfInBounds_toArray, List.set_cons_zero, List.set_cons_succ]
      refine takeAny 2 (dN := some 26) (v := ?v1_2_3) rfl rfl (by kernel_rfl) (by kernel_rfl) (by kernel_rfl) (fun _ _ _ h => h) (.inl ⟨rfl, fun w' hSw => ?h1_2_3⟩) hS ?_
      case h1_2_3 => (go_simp; first | done | with_reducible rfl)
      simp only [Act.put, List.setIfInBounds_toArray, List.set_cons_zero, List.set_cons_succ]
      refine takeAny 3 (dN := some 27) (v := ?v1_3_4) rfl rfl (by kernel_rfl) (by kernel_rfl) (by kernel_rfl) (fun _ _ _ h => h) (.inl ⟨rfl, fun w' hSw => ?h1_3_4⟩) hS ?_
      case h1_3_4 => (go_simp; first | done | with_reducible rfl)
      simp only [Act.put, List.setIfInBounds_toArray, List.set_cons_zero, List.set_cons_succ]
      refine takeRow 4 rfl rfl (by kernel_rfl) (by kernel_rfl) (by kernel_rfl) (fun _ _ _ h => h) rfl rfl rfl Try.underlying61 rfl (fun w h => h.2.1) sizeK hS ?_
      simp only [Act.put, List.setIfInBounds_toArray, List.set_cons_zero, List.set_cons_succ]
      refine takeAny 5 (dN := some 29) (v := ?v1_5_6) rfl rfl (by kernel_rfl) (by kernel_rfl) (by kernel_rfl) (fun _ _ _ h => h) (.inl ⟨rfl, fun w' hSw => ?h1_5_6⟩) hS ?_
      case h1_5_6 => (go_simp; first | done | with_reducible rfl)
      simp only [Act.put, List.setIfInBounds_toArray, List.set_cons_zero, List.set_cons_succ]
      refine takeAny 6 (dN := some 23) (v := ?v1_6_7) rfl rfl (by kernel_rfl) (by kernel_rfl) (by kernel_rfl) (fun _ _ _ h => h) (.inl ⟨rfl, fun w' hSw => ?h1_6_7⟩) hS ?_
      case h1_6_7 => (go_simp; first | done | with_reducible rfl)
      simp only [Act.put, List.setIfInBounds_toArray, List.set_cons_zero, List.set_cons_succ]
      refine takeAny 7 (dN := some 30) (v := ?v1_7_8) rfl rfl (by kernel_rfl) (by kernel_rfl) (by kernel_rfl) (fun _ _ _ h => h) (.inl ⟨rfl, fun w' hSw => ?h1_7_8⟩) hS ?_
      case h1_7_8 => (go_simp; first | done | with_reducible rfl)
      simp only [Act.put, List.setIfInBounds_toArray, List.set_cons_zero, List.set_cons_succ]
      refine takeAny 8 (dN := some 31) (v := ?v1_8_9) rfl rfl (by kernel_rfl) (by kernel_rfl) (by kernel_rfl) (fun _ _ _ h => h) (.inl ⟨rfl, fun w' hSw => ?h1_8_9⟩) hS ?_
      case h1_8_9 => (go_simp; first | done | with_reducible rfl)
      simp only [Act.put, List.setIfInBounds_toArray, List.set_cons_zero, List.set_cons_succ]
      refine takeAny 9 (dN := some 8) (v := ?v1_9_10) rfl rfl (by kernel_rfl) (by kernel_rfl) (by kernel_rfl) (fun _ _ _ h => h) (.inl ⟨rfl, fun w' hSw => ?h1_9_10⟩) hS ?_
      case h1_9_10 => (go_simp; first | done | with_reducible rfl)
      simp only [Act.put, List.setIfInBounds_toArray, List.set_cons_zero, List.set_cons_succ]
      refine takeAny 10 (dN := some 9) (v := ?v1_10_11) rfl rfl (by kernel_rfl) (by kernel_rfl) (by kernel_rfl) (fun _ _ _ h => h) (.inl ⟨rfl, fun w' hSw => ?h1_10_11⟩) hS ?_
      case h1_10_11 => (go_simp; first | done | with_reducible rfl)
      simp only [Act.put, List.setIfInBounds_toArray, List.set_cons_zero, List.set_cons_succ]
      refine wpAnyH_done (by kernel_rfl) ?_ _
      go_wp2
      go_ret
      exact ⟨by rw [E.out, Int.toNat_natCast]; rfl, HS1.out.mono (Nat.le_add_right _ _), below_grown HB1.out _⟩
    case inl =>
      rw [b] at LK
      have HM := Aside0.mk hM
      have HO := Aside0.mk ho
      have HS1 := Aside0.mk S1
      have HB1 := Aside0.mk hb1
      have HK1 := Aside0.mk k1
      clear hb1 S1 hM ho hv hc hc' b
      refine wp_region_held_drew (S := fun w' => w'.cell? ⟨p, 3, none⟩ = some (.map (some bm)) ∧ w'.heap[w.heap.size]? = some (.cells #[.int .i64 d, .int .i64 h] 61 (0, 0)) ∧ (Instr.lookup 57 (.map (some bm)) (.agg #[.int .i64 d, .int .i64 h]) true).run Try.prog w' = .ok (.tuple #[.int .i64 c, .bool false]) w') (by kernel_rfl) ⟨c3, k1, LK⟩ (fun hS => ?_)
      refine takeAny 0 (dN := some 24) (v := ?v2_0_1) rfl rfl (by kernel_rfl) (by kernel_rfl) (by kernel_rfl) (fun _ _ _ h => h) (.inl ⟨rfl, fun w' hSw => ?h2_0_1⟩) hS ?_
      case h2_0_1 => (go_simp; first | done | with_reducible rfl)
      simp only [Act.put, List.setIfInBounds_toArray, List.set_cons_zero, List.set_cons_succ]
      refine takeAny 1 (dN := some 25) (v := ?v2_1_2) rfl rfl (by kernel_rfl) (by kernel_rfl) (by kernel_rfl) (fun _ _ _ h => h) (.inl ⟨rfl, fun w' hSw => ?h2_1_2⟩) hS ?_
      case h2_1_2 => (go_simp; first | done | with_reducible rfl)
      simp only [Act.put, List.setIfInBounds_toArray, List.set_cons_zero, List.set_cons_succ]
      refine takeAny 2 (dN := some 26) (v := ?v2_2_3) rfl rfl (by kernel_rfl) (by kernel_rfl) (by kernel_rfl) (fun _ _ _ h => h) (.inl ⟨rfl, fun w' hSw => ?h2_2_3⟩) hS ?_
      case h2_2_3 => (go_simp; first | done | with_reducible rfl)
      simp only [Act.put, List.setIfInBounds_toArray, List.set_cons_zero, List.set_cons_succ]
      refine takeAny 3 (dN := some 27) (v := ?v2_3_4) rfl rfl (by kernel_rfl) (by kernel_rfl) (by kernel_rfl) (fun _ _ _ h => h) (.inl ⟨rfl, fun w' hSw => ?h2_3_4⟩) hS ?_
      case h2_3_4 => (go_simp; first | done | with_reducible rfl)
      simp only [Act.put, List.setIfInBounds_toArray, List.set_cons_zero, List.set_cons_succ]
      refine takeRow 4 rfl rfl (by kernel_rfl) (by kernel_rfl) (by kernel_rfl) (fun _ _ _ h => h) rfl rfl rfl Try.underlying61 rfl (fun w h => h.2.1) sizeK hS ?_
      simp only [Act.put, List.setIfInBounds_toArray, List.set_cons_zero, List.set_cons_succ]
      refine takeAny 5 (dN := some 29) (v := ?v2_5_6) rfl rfl (by kernel_rfl) (by kernel_rfl) (by kernel_rfl) (fun _ _ _ h => h) (.inl ⟨rfl, fun w' hSw => ?h2_5_6⟩) hS ?_
      case h2_5_6 => (go_simp; first | done | with_reducible rfl)
      simp only [Act.put, List.setIfInBounds_toArray, List.set_cons_zero, List.set_cons_succ]
      refine takeAny 6 (dN := some 23) (v := ?v2_6_7) rfl rfl (by kernel_rfl) (by kernel_rfl) (by kernel_rfl) (fun _ _ _ h => h) (.inl ⟨rfl, fun w' hSw => ?h2_6_7⟩) hS ?_
      case h2_6_7 => (go_simp; first | done | with_reducible rfl)
      simp only [Act.put, List.setIfInBounds_toArray, List.set_cons_zero, List.set_cons_succ]
      refine takeAny 7 (dN := some 30) (v := ?v2_7_8) rfl rfl (by kernel_rfl) (by kernel_rfl) (by kernel_rfl) (fun _ _ _ h => h) (.inl ⟨rfl, fun w' hSw => ?h2_7_8⟩) hS ?_
      case h2_7_8 => (go_simp; first | done | with_reducible rfl)
      simp only [Act.put, List.setIfInBounds_toArray, List.set_cons_zero, List.set_cons_succ]
      refine takeAny 8 (dN := some 31) (v := ?v2_8_9) rfl rfl (by kernel_rfl) (by kernel_rfl) (by kernel_rfl) (fun _ _ _ h => h) (.inl ⟨rfl, fun w' hSw => ?h2_8_9⟩) hS ?_
      case h2_8_9 => (go_simp; first | done | with_reducible rfl)
      simp only [Act.put, List.setIfInBounds_toArray, List.set_cons_zero, List.set_cons_succ]
      refine takeAny 9 (dN := some 8) (v := ?v2_9_10) rfl rfl (by kernel_rfl) (by kernel_rfl) (by kernel_rfl) (fun _ _ _ h => h) (.inl ⟨rfl, fun w' hSw => ?h2_9_10⟩) hS ?_
      case h2_9_10 => (go_simp; first | done | with_reducible rfl)
      simp only [Act.put, List.setIfInBounds_toArray, List.set_cons_zero, List.set_cons_succ]
      refine takeAny 10 (dN := some 9) (v := ?v2_10_11) rfl rfl (by kernel_rfl) (by kernel_rfl) (by kernel_rfl) (fun _ _ _ h => h) (.inl ⟨rfl, fun w' hSw => ?h2_10_11⟩) hS ?_
      case h2_10_11 => (go_simp; first | done | with_reducible rfl)
      simp only [Act.put, List.setIfInBounds_toArray, List.set_cons_zero, List.set_cons_succ]
      refine wpAnyH_done (by kernel_rfl) ?_ _
      generalize (w.alloc (.cells #[.int .i64 d, .int .i64 h] 61)).drew = W1 at *
      clear hS c3 k1 LK
      have hbw : Below wB.heap.size wB W1 := HB.out.trans (HB1.out.mono HB.out.size)
      obtain ⟨ad, eA, hx0, hx1⟩ := at_T43 HR0.out (d : Int) (by omega) (by omega)
      cases eA
      rw [Int.toNat_natCast] at hx0 hx1
      replace hx0 := (hbw.cell (World.block_lt_of_cell? wB _ hx0)).trans hx0
      replace hx1 := (hbw.cell (World.block_lt_of_cell? wB _ hx1)).trans hx1
      have hu := Try.underlying43
      have hgb := HG.out _ (rd_mem xs d dlt)
      obtain ⟨g, hgd⟩ : ∃ g, g = grOf (rd_T43 xs d) := ⟨_, rfl⟩
      have hgr : impl_Weather_grows.f (rd_T43 xs d).f0 (rd_T43 xs d).f1 = some g := by rw [hgd]; exact grOf_is _
      rw [← hgd] at hgb DR
      have HGR := Aside0.mk hgr
      have c0 := (blkC HS1.out.cells 0).trans rfl
      have c1 := (blkC HS1.out.cells 1).trans rfl
      have c2 := (blkC HS1.out.cells 2).trans rfl
      have pd : (0 ≤ (d : Int)) = True := eq_true (by omega)
      have qd : ((d : Int) < (xs.length : Int)) = True := eq_true (by omega)
      have x1 : IntKind.i64.wrap (h + g) = h + g := IntWalk.i64_in _ (by omega)
      clear hgr hgd
      obtain ⟨m, hm⟩ : ∃ m, (if cut < h then cut else h) = m := ⟨_, rfl⟩
      have hmb : 0 ≤ m ∧ m ≤ 200 ∧ min h cut = m := by rw [← hm]; split <;> omega
      obtain ⟨L1, hL1⟩ : ∃ L, leastP cut most ((xs.map grOf).drop (d + 1)) (h + g) = L := ⟨_, rfl⟩
      obtain ⟨L2, hL2⟩ : ∃ L, leastP cut most ((xs.map grOf).drop (d + 1)) (m + g) = L := ⟨_, rfl⟩
      have hi1 := leastP_in cut most ((xs.map grOf).drop (d + 1)) (h + g)
      have hi2 := leastP_in cut most ((xs.map grOf).drop (d + 1)) (m + g)
      have hL : leastP cut most ((xs.map grOf).drop d) h = if m + g ≤ most then min (if h + g ≤ most then L1 else 1000) (1 + L2) else (if h + g ≤ most then L1 else 1000) := by rw [DR.out, leastP, hmb.2.2, hL1, hL2]
      rw [hL1] at hi1
      rw [hL2] at hi2
      have ed : ((d + 1 : Nat) : Int) = (d : Int) + 1 := by omega
      have IH1 : h + g ≤ most → ∀ N w, N + cntL n ≤ 1000000000000 → Below wB.heap.size wB w → PS cut most (xs.map grOf) (some ad) xs.length cp p bm bc N w → Calls Try.prog 24 #[.pointer (some ⟨p, 0, none⟩), .int .i64 ((d : Int) + 1), .int .i64 (h + g)] w fun e w' => e = .returned (.int .i64 L1) ∧ PS cut most (xs.map grOf) (some ad) xs.length cp p bm bc (N + cntL n) w' ∧ w.grownBy w' (some bm) := fun a N w b c e => by
        have := IH.out (d + 1) (by omega) (h + g) (by omega) (by omega) N b w c e
        rw [hL1, ed] at this
        exact this
      have IH2 : m + g ≤ most → ∀ N w, N + cntL n ≤ 1000000000000 → Below wB.heap.size wB w → PS cut most (xs.map grOf) (some ad) xs.length cp p bm bc N w → Calls Try.prog 24 #[.pointer (some ⟨p, 0, none⟩), .int .i64 ((d : Int) + 1), .int .i64 (m + g)] w fun e w' => e = .returned (.int .i64 L2) ∧ PS cut most (xs.map grOf) (some ad) xs.length cp p bm bc (N + cntL n) w' ∧ w.grownBy w' (some bm) := fun a N w b c e => by
        have := IH.out (d + 1) (by omega) (m + g) (by omega) (by omega) N b w c e
        rw [hL2, ed] at this
        exact this
      have HL := Aside0.mk hL
      have HBW := Aside0.mk hbw
      have hN1 : N + cntL n ≤ 1000000000000 := by simp only [cntL] at hN; omega
      have hN2 : N + cntL n + cntL n ≤ 1000000000000 := by simp only [cntL] at hN; omega
      have hNb : ∀ M, M ≤ N + cntL n + cntL n → M < maxLen := fun M h => Nat.lt_of_le_of_lt (Nat.le_trans h hN2) (by decide)
      have hNc : ∀ M, M ≤ N + cntL n + cntL n → M + 1 ≤ N + cntL (n + 1) := fun M h => by simp only [cntL]; omega
      have HNB := Aside0.mk hNb
      have HNC := Aside0.mk hNc
      have bmlt := HS.out.lt
      have pne := HS.out.ne
      have wd : wfI (d : Int) := wfi (by omega) (by omega)
      have wh : wfI h := wfi (by omega) (by omega)
      have x3 : IntKind.i64.wrap (m + g) = m + g := IntWalk.i64_in _ (by omega)
      have x4 : IntKind.i64.wrap (1 + L2) = 1 + L2 := IntWalk.i64_in _ (by omega)
      have x2 : IntKind.i64.wrap ((d : Int) + 1) = (d : Int) + 1 := IntWalk.i64_in _ (by omega)
      clear hL hL1 hL2 ed hbw hN hNb hNc hmb
      by_cases ha : h + g ≤ most
      · have had : decide (h + g ≤ most) = true := decide_eq_true ha
        have IH1 := IH1 ha
        by_cases hb : m + g ≤ most
        · have hbd : decide (m + g ≤ most) = true := decide_eq_true hb
          have IH2 := IH2 hb
          obtain ⟨F, hF⟩ : ∃ F, (if 1 + L2 < L1 then 1 + L2 else L1) = F := ⟨_, rfl⟩
          have hFl : leastP cut most ((xs.map grOf).drop d) h = F := by rw [HL.out, if_pos hb, if_pos ha, ← hF]; split <;> omega
          have hFb : 0 ≤ F ∧ F ≤ 2000 := by rw [← hF]; split <;> omega
          have HF := Aside0.mk hFl
          clear hFl
          clear ha hb
          go_wp2_with (first | (go_at_call 27; refine (impl_Weather_grows.calls _ _ g _ HGR.out).mono ?_; rintro e w5 ⟨rfl, hb5⟩; have S5 := HS1.out.below hb5; have k5 := blkB hb5 HK1.out (blkLt HK1.out); have hB5 : Below wB.heap.size wB w5 := HBW.out.trans (hb5.mono HBW.out.size); have c0 := (blkC S5.cells 0).trans rfl; have c1 := (blkC S5.cells 1).trans rfl; have c3 := (blkC S5.cells 3).trans rfl; have G5 := Aside0.mk (below_grown (belW (HB1.out) hb5) (some bm))) | (go_at_call 24; refine (IH1 N _ hN1 hB5 S5).mono ?_; clear IH1; rintro e w6 ⟨rfl, S6, g6⟩; have k6 := grown_blk g6 k5 (by omega); have hB6 : Below wB.heap.size wB w6 := Below.grown hB5 g6 hB5.size (fun k e => by cases e; exact hbB); have c0 := (blkC S6.cells 0).trans rfl; have c1 := (blkC S6.cells 1).trans rfl; have c3 := (blkC S6.cells 3).trans rfl; have G6 := Aside0.mk (grown_trans G5.out g6)) | (go_at_call 24; refine (IH2 (N + cntL n) _ (by omega) hB6 S6).mono ?_; clear IH2; rintro e w7 ⟨rfl, S7, g7⟩; have k7 := grown_blk g7 k6 (by omega); have hB7 : Below wB.heap.size wB w7 := Below.grown hB6 g7 hB6.size (fun k e => by cases e; exact hbB); have c0 := (blkC S7.cells 0).trans rfl; have c1 := (blkC S7.cells 1).trans rfl; have c3 := (blkC S7.cells 3).trans rfl; have G7 := Aside0.mk (grown_trans G6.out g7)))
          have kD : w7.drew.heap[w.heap.size]? = some (.cells #[.int .i64 d, .int .i64 h] 61 (0, 0)) := blkD k7
          have cD : w7.drew.cell? ⟨p, 3, none⟩ = some (.map (some bm)) := c3
          obtain ⟨D3, ho3, hM3⟩ := S7.memo
          have HM3 := Aside0.mk hM3
          refine wp_region_held_drew (S := fun w' => w'.cell? ⟨p, 3, none⟩ = some (.map (some bm)) ∧ w'.heap[w.heap.size]? = some (.cells #[.int .i64 d, .int .i64 h] 61 (0, 0))) (by kernel_rfl) ⟨cD, kD⟩ (fun hS => ?_)
          refine takeAny 0 (dN := some 79) (v := ?v3_0_1) rfl rfl (by kernel_rfl) (by kernel_rfl) (by kernel_rfl) (fun _ _ _ h => h) (.inl ⟨rfl, fun w' hSw => ?h3_0_1⟩) hS ?_
          case h3_0_1 => (go_simp; first | done | with_reducible rfl)
          simp only [Act.put, List.setIfInBounds_toArray, List.set_cons_zero, List.set_cons_succ]
          refine takeAny 1 (dN := some 80) (v := ?v3_1_2) rfl rfl (by kernel_rfl) (by kernel_rfl) (by kernel_rfl) (fun _ _ _ h => h) (.inl ⟨rfl, fun w' hSw => ?h3_1_2⟩) hS ?_
          case h3_1_2 => (go_simp; first | done | with_reducible rfl)
          simp only [Act.put, List.setIfInBounds_toArray, List.set_cons_zero, List.set_cons_succ]
          refine takeAny 2 (dN := some 81) (v := ?v3_2_3) rfl rfl (by kernel_rfl) (by kernel_rfl) (by kernel_rfl) (fun _ _ _ h => h) (.inl ⟨rfl, fun w' hSw => ?h3_2_3⟩) hS ?_
          case h3_2_3 => (go_simp; first | done | with_reducible rfl)
          simp only [Act.put, List.setIfInBounds_toArray, List.set_cons_zero, List.set_cons_succ]
          refine takeAny 3 (dN := some 82) (v := ?v3_3_4) rfl rfl (by kernel_rfl) (by kernel_rfl) (by kernel_rfl) (fun _ _ _ h => h) (.inl ⟨rfl, fun w' hSw => ?h3_3_4⟩) hS ?_
          case h3_3_4 => (go_simp; first | done | with_reducible rfl)
          simp only [Act.put, List.setIfInBounds_toArray, List.set_cons_zero, List.set_cons_succ]
          refine takeRow 4 rfl rfl (by kernel_rfl) (by kernel_rfl) (by kernel_rfl) (fun _ _ _ h => h) rfl rfl rfl Try.underlying61 rfl (fun w h => h.2) sizeK hS ?_
          simp only [Act.put, List.setIfInBounds_toArray, List.set_cons_zero, List.set_cons_succ]
          refine takeAny 5 (dN := some 84) (v := ?v3_5_6) rfl rfl (by kernel_rfl) (by kernel_rfl) (by kernel_rfl) (fun _ _ _ h => h) (.inl ⟨rfl, fun w' hSw => ?h3_5_6⟩) hS ?_
          case h3_5_6 => (go_simp; first | done | with_reducible rfl)
          simp only [Act.put, List.setIfInBounds_toArray, List.set_cons_zero, List.set_cons_succ]
          refine wpAnyH_ready (rs := [6]) (by kernel_rfl) (by simp) (AllReadyH.cons rfl (fun K hK => ?_) AllReadyH.nil)
          (refine mapStep rfl rfl rfl arrK Try.underlying57 rfl ho3.drew (HNB.out _ (by omega)) rfl rfl (keyL_is wd wh) (plainElem_int Try.underlying2 (wfi (by omega) (by omega))) ?_; intro w8 ho8 hg8; refine hK.out _ _ ⟨hg8.cell hS.1 (by simp; omega), grown_blk hg8 hS.2 (by omega)⟩ (fun hS => ?_); clear hK)
          refine wpAnyH_done (by kernel_rfl) ?_ _
          go_wp2
          go_ret
          have P8 : PS cut most (xs.map grOf) (some ad) xs.length cp p bm bc ((N + cntL n + cntL n) + 1) w8 := by
            refine ⟨grown_blk hg8 (blkD S7.cells) (by omega), _, ho8, ?_⟩
            have := HM3.out.put wd wh
            rw [Int.toNat_natCast, HF.out] at this
            exact this
          exact ⟨by rw [HF.out]; rfl, P8.mono (HNC.out _ (by omega)), grown_trans (grown_trans G7.out (below_grown (belD (Below.refl _ _)) _)) hg8⟩
        · have hbd : decide (m + g ≤ most) = false := decide_eq_false hb
          clear IH2
          have hFl : leastP cut most ((xs.map grOf).drop d) h = L1 := by rw [HL.out, if_neg hb, if_pos ha]
          have HF := Aside0.mk hFl
          clear hFl
          clear ha hb
          go_wp2_with (first | (go_at_call 27; refine (impl_Weather_grows.calls _ _ g _ HGR.out).mono ?_; rintro e w5 ⟨rfl, hb5⟩; have S5 := HS1.out.below hb5; have k5 := blkB hb5 HK1.out (blkLt HK1.out); have hB5 : Below wB.heap.size wB w5 := HBW.out.trans (hb5.mono HBW.out.size); have c0 := (blkC S5.cells 0).trans rfl; have c1 := (blkC S5.cells 1).trans rfl; have c3 := (blkC S5.cells 3).trans rfl; have G5 := Aside0.mk (below_grown (belW (HB1.out) hb5) (some bm))) | (go_at_call 24; refine (IH1 N _ hN1 hB5 S5).mono ?_; clear IH1; rintro e w6 ⟨rfl, S6, g6⟩; have k6 := grown_blk g6 k5 (by omega); have hB6 : Below wB.heap.size wB w6 := Below.grown hB5 g6 hB5.size (fun k e => by cases e; exact hbB); have c0 := (blkC S6.cells 0).trans rfl; have c1 := (blkC S6.cells 1).trans rfl; have c3 := (blkC S6.cells 3).trans rfl; have G6 := Aside0.mk (grown_trans G5.out g6)))
          have kD : w6.drew.heap[w.heap.size]? = some (.cells #[.int .i64 d, .int .i64 h] 61 (0, 0)) := blkD k6
          have cD : w6.drew.cell? ⟨p, 3, none⟩ = some (.map (some bm)) := c3
          obtain ⟨D3, ho3, hM3⟩ := S6.memo
          have HM3 := Aside0.mk hM3
          refine wp_region_held_drew (S := fun w' => w'.cell? ⟨p, 3, none⟩ = some (.map (some bm)) ∧ w'.heap[w.heap.size]? = some (.cells #[.int .i64 d, .int .i64 h] 61 (0, 0))) (by kernel_rfl) ⟨cD, kD⟩ (fun hS => ?_)
          refine takeAny 0 (dN := some 79) (v := ?v4_0_1) rfl rfl (by kernel_rfl) (by kernel_rfl) (by kernel_rfl) (fun _ _ _ h => h) (.inl ⟨rfl, fun w' hSw => ?h4_0_1⟩) hS ?_
          case h4_0_1 => (go_simp; first | done | with_reducible rfl)
          simp only [Act.put, List.setIfInBounds_toArray, List.set_cons_zero, List.set_cons_succ]
          refine takeAny 1 (dN := some 80) (v := ?v4_1_2) rfl rfl (by kernel_rfl) (by kernel_rfl) (by kernel_rfl) (fun _ _ _ h => h) (.inl ⟨rfl, fun w' hSw => ?h4_1_2⟩) hS ?_
          case h4_1_2 => (go_simp; first | done | with_reducible rfl)
          simp only [Act.put, List.setIfInBounds_toArray, List.set_cons_zero, List.set_cons_succ]
          refine takeAny 2 (dN := some 81) (v := ?v4_2_3) rfl rfl (by kernel_rfl) (by kernel_rfl) (by kernel_rfl) (fun _ _ _ h => h) (.inl ⟨rfl, fun w' hSw => ?h4_2_3⟩) hS ?_
          case h4_2_3 => (go_simp; first | done | with_reducible rfl)
          simp only [Act.put, List.setIfInBounds_toArray, List.set_cons_zero, List.set_cons_succ]
          refine takeAny 3 (dN := some 82) (v := ?v4_3_4) rfl rfl (by kernel_rfl) (by kernel_rfl) (by kernel_rfl) (fun _ _ _ h => h) (.inl ⟨rfl, fun w' hSw => ?h4_3_4⟩) hS ?_
          case h4_3_4 => (go_simp; first | done | with_reducible rfl)
          simp only [Act.put, List.setIfInBounds_toArray, List.set_cons_zero, List.set_cons_succ]
          refine takeRow 4 rfl rfl (by kernel_rfl) (by kernel_rfl) (by kernel_rfl) (fun _ _ _ h => h) rfl rfl rfl Try.underlying61 rfl (fun w h => h.2) sizeK hS ?_
          simp only [Act.put, List.setIfInBounds_toArray, List.set_cons_zero, List.set_cons_succ]
          refine takeAny 5 (dN := some 84) (v := ?v4_5_6) rfl rfl (by kernel_rfl) (by kernel_rfl) (by kernel_rfl) (fun _ _ _ h => h) (.inl ⟨rfl, fun w' hSw => ?h4_5_6⟩) hS ?_
          case h4_5_6 => (go_simp; first | done | with_reducible rfl)
          simp only [Act.put, List.setIfInBounds_toArray, List.set_cons_zero, List.set_cons_succ]
          refine wpAnyH_ready (rs := [6]) (by kernel_rfl) (by simp) (AllReadyH.cons rfl (fun K hK => ?_) AllReadyH.nil)
          (refine mapStep rfl rfl rfl arrK Try.underlying57 rfl ho3.drew (HNB.out _ (by omega)) rfl rfl (keyL_is wd wh) (plainElem_int Try.underlying2 (wfi (by omega) (by omega))) ?_; intro w8 ho8 hg8; refine hK.out _ _ ⟨hg8.cell hS.1 (by simp; omega), grown_blk hg8 hS.2 (by omega)⟩ (fun hS => ?_); clear hK)
          refine wpAnyH_done (by kernel_rfl) ?_ _
          go_wp2
          go_ret
          have P8 : PS cut most (xs.map grOf) (some ad) xs.length cp p bm bc ((N + cntL n) + 1) w8 := by
            refine ⟨grown_blk hg8 (blkD S6.cells) (by omega), _, ho8, ?_⟩
            have := HM3.out.put wd wh
            rw [Int.toNat_natCast, HF.out] at this
            exact this
          exact ⟨by rw [HF.out]; rfl, P8.mono (HNC.out _ (by omega)), grown_trans (grown_trans G6.out (below_grown (belD (Below.refl _ _)) _)) hg8⟩
      · have had : decide (h + g ≤ most) = false := decide_eq_false ha
        clear IH1
        by_cases hb : m + g ≤ most
        · have hbd : decide (m + g ≤ most) = true := decide_eq_true hb
          have IH2 := IH2 hb
          obtain ⟨F, hF⟩ : ∃ F, (if 1 + L2 < 1000 then 1 + L2 else 1000) = F := ⟨_, rfl⟩
          have hFl : leastP cut most ((xs.map grOf).drop d) h = F := by rw [HL.out, if_pos hb, if_neg ha, ← hF]; split <;> omega
          have hFb : 0 ≤ F ∧ F ≤ 2000 := by rw [← hF]; split <;> omega
          have HF := Aside0.mk hFl
          clear hFl
          clear ha hb
          go_wp2_with (first | (go_at_call 27; refine (impl_Weather_grows.calls _ _ g _ HGR.out).mono ?_; rintro e w5 ⟨rfl, hb5⟩; have S5 := HS1.out.below hb5; have k5 := blkB hb5 HK1.out (blkLt HK1.out); have hB5 : Below wB.heap.size wB w5 := HBW.out.trans (hb5.mono HBW.out.size); have c0 := (blkC S5.cells 0).trans rfl; have c1 := (blkC S5.cells 1).trans rfl; have c3 := (blkC S5.cells 3).trans rfl; have G5 := Aside0.mk (below_grown (belW (HB1.out) hb5) (some bm))) | (go_at_call 24; refine (IH2 N _ (by omega) hB5 S5).mono ?_; clear IH2; rintro e w7 ⟨rfl, S7, g7⟩; have k7 := grown_blk g7 k5 (by omega); have hB7 : Below wB.heap.size wB w7 := Below.grown hB5 g7 hB5.size (fun k e => by cases e; exact hbB); have c0 := (blkC S7.cells 0).trans rfl; have c1 := (blkC S7.cells 1).trans rfl; have c3 := (blkC S7.cells 3).trans rfl; have G7 := Aside0.mk (grown_trans G5.out g7)))
          have kD : w7.drew.heap[w.heap.size]? = some (.cells #[.int .i64 d, .int .i64 h] 61 (0, 0)) := blkD k7
          have cD : w7.drew.cell? ⟨p, 3, none⟩ = some (.map (some bm)) := c3
          obtain ⟨D3, ho3, hM3⟩ := S7.memo
          have HM3 := Aside0.mk hM3
          refine wp_region_held_drew (S := fun w' => w'.cell? ⟨p, 3, none⟩ = some (.map (some bm)) ∧ w'.heap[w.heap.size]? = some (.cells #[.int .i64 d, .int .i64 h] 61 (0, 0))) (by kernel_rfl) ⟨cD, kD⟩ (fun hS => ?_)
          refine takeAny 0 (dN := some 79) (v := ?v5_0_1) rfl rfl (by kernel_rfl) (by kernel_rfl) (by kernel_rfl) (fun _ _ _ h => h) (.inl ⟨rfl, fun w' hSw => ?h5_0_1⟩) hS ?_
          case h5_0_1 => (go_simp; first | done | with_reducible rfl)
          simp only [Act.put, List.setIfInBounds_toArray, List.set_cons_zero, List.set_cons_succ]
          refine takeAny 1 (dN := some 80) (v := ?v5_1_2) rfl rfl (by kernel_rfl) (by kernel_rfl) (by kernel_rfl) (fun _ _ _ h => h) (.inl ⟨rfl, fun w' hSw => ?h5_1_2⟩) hS ?_
          case h5_1_2 => (go_simp; first | done | with_reducible rfl)
          simp only [Act.put, List.setIfInBounds_toArray, List.set_cons_zero, List.set_cons_succ]
          refine takeAny 2 (dN := some 81) (v := ?v5_2_3) rfl rfl (by kernel_rfl) (by kernel_rfl) (by kernel_rfl) (fun _ _ _ h => h) (.inl ⟨rfl, fun w' hSw => ?h5_2_3⟩) hS ?_
          case h5_2_3 => (go_simp; first | done | with_reducible rfl)
          simp only [Act.put, List.setIfInBounds_toArray, List.set_cons_zero, List.set_cons_succ]
          refine takeAny 3 (dN := some 82) (v := ?v5_3_4) rfl rfl (by kernel_rfl) (by kernel_rfl) (by kernel_rfl) (fun _ _ _ h => h) (.inl ⟨rfl, fun w' hSw => ?h5_3_4⟩) hS ?_
          case h5_3_4 => (go_simp; first | done | with_reducible rfl)
          simp only [Act.put, List.setIfInBounds_toArray, List.set_cons_zero, List.set_cons_succ]
          refine takeRow 4 rfl rfl (by kernel_rfl) (by kernel_rfl) (by kernel_rfl) (fun _ _ _ h => h) rfl rfl rfl Try.underlying61 rfl (fun w h => h.2) sizeK hS ?_
          simp only [Act.put, List.setIfInBounds_toArray, List.set_cons_zero, List.set_cons_succ]
          refine takeAny 5 (dN := some 84) (v := ?v5_5_6) rfl rfl (by kernel_rfl) (by kernel_rfl) (by kernel_rfl) (fun _ _ _ h => h) (.inl ⟨rfl, fun w' hSw => ?h5_5_6⟩) hS ?_
          case h5_5_6 => (go_simp; first | done | with_reducible rfl)
          simp only [Act.put, List.setIfInBounds_toArray, List.set_cons_zero, List.set_cons_succ]
          refine wpAnyH_ready (rs := [6]) (by kernel_rfl) (by simp) (AllReadyH.cons rfl (fun K hK => ?_) AllReadyH.nil)
          (refine mapStep rfl rfl rfl arrK Try.underlying57 rfl ho3.drew (HNB.out _ (by omega)) rfl rfl (keyL_is wd wh) (plainElem_int Try.underlying2 (wfi (by omega) (by omega))) ?_; intro w8 ho8 hg8; refine hK.out _ _ ⟨hg8.cell hS.1 (by simp; omega), grown_blk hg8 hS.2 (by omega)⟩ (fun hS => ?_); clear hK)
          refine wpAnyH_done (by kernel_rfl) ?_ _
          go_wp2
          go_ret
          have P8 : PS cut most (xs.map grOf) (some ad) xs.length cp p bm bc ((N + cntL n) + 1) w8 := by
            refine ⟨grown_blk hg8 (blkD S7.cells) (by omega), _, ho8, ?_⟩
            have := HM3.out.put wd wh
            rw [Int.toNat_natCast, HF.out] at this
            exact this
          exact ⟨by rw [HF.out]; rfl, P8.mono (HNC.out _ (by omega)), grown_trans (grown_trans G7.out (below_grown (belD (Below.refl _ _)) _)) hg8⟩
        · have hbd : decide (m + g ≤ most) = false := decide_eq_false hb
          clear IH2
          have hFl : leastP cut most ((xs.map grOf).drop d) h = 1000 := by rw [HL.out, if_neg hb, if_neg ha]
          have HF := Aside0.mk hFl
          clear hFl
          clear ha hb
          go_wp2_with (first | (go_at_call 27; refine (impl_Weather_grows.calls _ _ g _ HGR.out).mono ?_; rintro e w5 ⟨rfl, hb5⟩; have S5 := HS1.out.below hb5; have k5 := blkB hb5 HK1.out (blkLt HK1.out); have hB5 : Below wB.heap.size wB w5 := HBW.out.trans (hb5.mono HBW.out.size); have c0 := (blkC S5.cells 0).trans rfl; have c1 := (blkC S5.cells 1).trans rfl; have c3 := (blkC S5.cells 3).trans rfl; have G5 := Aside0.mk (below_grown (belW (HB1.out) hb5) (some bm))))
          have kD : w5.drew.heap[w.heap.size]? = some (.cells #[.int .i64 d, .int .i64 h] 61 (0, 0)) := blkD k5
          have cD : w5.drew.cell? ⟨p, 3, none⟩ = some (.map (some bm)) := c3
          obtain ⟨D3, ho3, hM3⟩ := S5.memo
          have HM3 := Aside0.mk hM3
          refine wp_region_held_drew (S := fun w' => w'.cell? ⟨p, 3, none⟩ = some (.map (some bm)) ∧ w'.heap[w.heap.size]? = some (.cells #[.int .i64 d, .int .i64 h] 61 (0, 0))) (by kernel_rfl) ⟨cD, kD⟩ (fun hS => ?_)
          refine takeAny 0 (dN := some 79) (v := ?v6_0_1) rfl rfl (by kernel_rfl) (by kernel_rfl) (by kernel_rfl) (fun _ _ _ h => h) (.inl ⟨rfl, fun w' hSw => ?h6_0_1⟩) hS ?_
          case h6_0_1 => (go_simp; first | done | with_reducible rfl)
          simp only [Act.put, List.setIfInBounds_toArray, List.set_cons_zero, List.set_cons_succ]
          refine takeAny 1 (dN := some 80) (v := ?v6_1_2) rfl rfl (by kernel_rfl) (by kernel_rfl) (by kernel_rfl) (fun _ _ _ h => h) (.inl ⟨rfl, fun w' hSw => ?h6_1_2⟩) hS ?_
          case h6_1_2 => (go_simp; first | done | with_reducible rfl)
          simp only [Act.put, List.setIfInBounds_toArray, List.set_cons_zero, List.set_cons_succ]
          refine takeAny 2 (dN := some 81) (v := ?v6_2_3) rfl rfl (by kernel_rfl) (by kernel_rfl) (by kernel_rfl) (fun _ _ _ h => h) (.inl ⟨rfl, fun w' hSw => ?h6_2_3⟩) hS ?_
          case h6_2_3 => (go_simp; first | done | with_reducible rfl)
          simp only [Act.put, List.setIfInBounds_toArray, List.set_cons_zero, List.set_cons_succ]
          refine takeAny 3 (dN := some 82) (v := ?v6_3_4) rfl rfl (by kernel_rfl) (by kernel_rfl) (by kernel_rfl) (fun _ _ _ h => h) (.inl ⟨rfl, fun w' hSw => ?h6_3_4⟩) hS ?_
          case h6_3_4 => (go_simp; first | done | with_reducible rfl)
          simp only [Act.put, List.setIfInBounds_toArray, List.set_cons_zero, List.set_cons_succ]
          refine takeRow 4 rfl rfl (by kernel_rfl) (by kernel_rfl) (by kernel_rfl) (fun _ _ _ h => h) rfl rfl rfl Try.underlying61 rfl (fun w h => h.2) sizeK hS ?_
          simp only [Act.put, List.setIfInBounds_toArray, List.set_cons_zero, List.set_cons_succ]
          refine takeAny 5 (dN := some 84) (v := ?v6_5_6) rfl rfl (by kernel_rfl) (by kernel_rfl) (by kernel_rfl) (fun _ _ _ h => h) (.inl ⟨rfl, fun w' hSw => ?h6_5_6⟩) hS ?_
          case h6_5_6 => (go_simp; first | done | with_reducible rfl)
          simp only [Act.put, List.setIfInBounds_toArray, List.set_cons_zero, List.set_cons_succ]
          refine wpAnyH_ready (rs := [6]) (by kernel_rfl) (by simp) (AllReadyH.cons rfl (fun K hK => ?_) AllReadyH.nil)
          (refine mapStep rfl rfl rfl arrK Try.underlying57 rfl ho3.drew (HNB.out _ (by omega)) rfl rfl (keyL_is wd wh) (plainElem_int Try.underlying2 (wfi (by omega) (by omega))) ?_; intro w8 ho8 hg8; refine hK.out _ _ ⟨hg8.cell hS.1 (by simp; omega), grown_blk hg8 hS.2 (by omega)⟩ (fun hS => ?_); clear hK)
          refine wpAnyH_done (by kernel_rfl) ?_ _
          go_wp2
          go_ret
          have P8 : PS cut most (xs.map grOf) (some ad) xs.length cp p bm bc (N + 1) w8 := by
            refine ⟨grown_blk hg8 (blkD S5.cells) (by omega), _, ho8, ?_⟩
            have := HM3.out.put wd wh
            rw [Int.toNat_natCast, HF.out] at this
            exact this
          exact ⟨by rw [HF.out]; rfl, P8.mono (HNC.out _ (by omega)), grown_trans (grown_trans G5.out (below_grown (belD (Below.refl _ _)) _)) hg8⟩

theorem pairC {w : World} {g : Nat} {t : TypeId} {a b : Int} (h : w.heap[g]? = some (.cells #[.int .i64 a, .int .i64 b] t (0, 0))) : Kd.C (Kd.int .i64) w (some ⟨g, 0, none⟩) [a, b].length [a, b] := by
  refine ⟨rfl, by simp, fun _ => ⟨_, rfl, fun j p hj => ⟨[.int .i64 p], rfl, rfl, fun i u hi => ?_⟩⟩⟩
  match j, i with
  | 0, 0 => simp at hj hi; subst hj hi; exact (blkC h 0).trans rfl
  | 1, 0 => simp at hj hi; subst hj hi; exact (blkC h 1).trans rfl
  | 0, i + 1 => simp at hi
  | 1, i + 1 => simp at hi
  | j + 2, _ => simp at hj
theorem cnt_le (n : Nat) (h : n ≤ 30) : 0 + cntL n ≤ 1000000000000 := by
  have : ∀ n, cntL n + 1 = 2 ^ n := by
    intro n
    induction n with
    | zero => rfl
    | succ n ih => rw [Nat.pow_succ, ← ih]; simp only [cntL]; omega
  have h1 := this n
  have h2 : 2 ^ n ≤ 2 ^ 30 := Nat.pow_le_pow_right (by omega) h
  have h3 : 2 ^ 30 = 1073741824 := by decide
  omega
/-- The best cut below n. -/
def bestC (gs : List Int) (start most mows : Int) : Nat → Int × Int
  | 0 => (0, 6)
  | n + 1 => if leastP n most gs start ≤ mows then (n, 0) else bestC gs start most mows n
set_option maxRecDepth 100000 in
set_option maxHeartbeats 1000000 in
theorem plannerC (cut most : Int) (gs : List Int) (A : Option Addr) (ln cp : Nat) (w : World) :
    Calls Try.prog 23 #[.int .i64 cut, .int .i64 most, .slice A ln cp] w fun e w' => e = .returned (.pointer (some ⟨w.heap.size + 1 + 1, 0, none⟩)) ∧ PS cut most gs A ln cp (w.heap.size + 1 + 1) w.heap.size (w.heap.size + 1) 0 w' ∧ Below w.heap.size w w' := by
  have hmm := @run_makeMap Try.prog
  go_enter Try.func23, Try.ntmps23
  go_wp2
  go_ret
  exact ⟨rfl, ⟨blkN (by simp), _, ((World.ownsMap_made w _ _ _).alloc _).alloc _, Memo.none _ _ _⟩, belA (belA (belA (Below.refl _ _)))⟩
/-- What BestCut answers where the days are as they must be. -/
def impl_BestCut.f (k : Nat) (a0 : Int) (a1 : Int) (l2 : List (S43)) (a3 : Int) : Option (Int × Int) :=
  (impl_lengthsCode.f k l2 [a0, a1]).bind fun c => if c = 0 then (if 0 ≤ a3 ∧ a3 ≤ 30 then (if 0 ≤ a0 ∧ a0 ≤ 200 ∧ 0 ≤ a1 ∧ a1 ≤ 200 ∧ l2.length ≤ 30 ∧ l2.all (fun x => decide (0 ≤ grOf x) && decide (grOf x ≤ 24)) = true then some (bestC (l2.map grOf) a0 a1 a3 201) else none) else some (0, 2)) else some (0, c)
theorem impl_BestCut.mono : ∀ a0 a1 a2 a3 k, LeO (impl_BestCut.f k a0 a1 a2 a3) (impl_BestCut.f (k + 1) a0 a1 a2 a3) := by
  intro a0 a1 a2 a3 k r h
  unfold impl_BestCut.f at h ⊢
  obtain ⟨c, h1, h2⟩ := Option.bind_eq_some_iff.mp h
  rw [impl_lengthsCode.mono _ _ _ _ h1]
  exact h2
set_option maxHeartbeats 8000000 in
set_option maxRecDepth 100000 in
theorem impl_BestCut.calls (k : Nat) (a0 : Int) (a1 : Int) (A2 : Option Addr) (c2 : Nat) (l2 : List (S43)) (a3 : Int) (r1 : Int) (r2 : Int) (w : World) (hr2 : Kd.C k43 w A2 l2.length l2) (hc2 : l2.length ≤ c2) (h : impl_BestCut.f k a0 a1 l2 a3 = some (r1, r2)) :
    Calls Try.prog 8 #[.int .i64 a0, .int .i64 a1, .slice A2 l2.length c2, .int .i64 a3] w fun e w' => e = .returned (.tuple #[.int .i64 r1, .int .i64 r2]) ∧ Below w.heap.size w w' := by
  unfold impl_BestCut.f at h
  obtain ⟨c, h1, h2⟩ := Option.bind_eq_some_iff.mp h
  have HC := Aside0.mk (fun (w : World) hr hs => impl_lengthsCode.calls k A2 c2 l2 (some ⟨w.heap.size, 0, none⟩) 2 [a0, a1] c (w.alloc (.cells #[.int .i64 a0, .int .i64 a1] 2)) hr hc2 hs (by simp) h1)
  have HR2 := Aside0.mk hr2
  clear h h1 hr2
  by_cases h0 : c = 0
  · subst h0
    rw [if_pos rfl] at h2
    by_cases h3 : 0 ≤ a3 ∧ a3 ≤ 30
    · rw [if_pos h3] at h2
      by_cases h4 : 0 ≤ a0 ∧ a0 ≤ 200 ∧ 0 ≤ a1 ∧ a1 ≤ 200 ∧ l2.length ≤ 30 ∧ l2.all (fun x => decide (0 ≤ grOf x) && decide (grOf x ≤ 24)) = true
      case neg => rw [if_neg h4] at h2; cases h2
      rw [if_pos h4] at h2
      obtain ⟨s0, s1, m0, m1, hl, hall⟩ := h4
      have hg : ∀ x ∈ l2, 0 ≤ grOf x ∧ grOf x ≤ 24 := fun x hx => by
        have := List.all_eq_true.1 hall x hx
        simpa using this
      have hw0 : impl_within.f a3 0 30 = some true := by unfold impl_within.f; rw [if_pos h3.1, decide_eq_true h3.2]
      have HW := Aside0.mk (fun w => impl_within.calls a3 0 30 true w hw0)
      have HB := Aside0.mk (Option.some.inj h2)
      have HH := Aside0.mk hg
      have HCN := Aside0.mk (cnt_le _ hl)
      have HL := Aside0.mk hl
      clear h2 hg hall h3 hw0 hl
      go_enter Try.func8, Try.ntmps8
      go_wp2_with (first | (go_at_call 21; refine (HC.out w (Kd.C_alloc HR2.out _) (pairC (blkN rfl))).mono ?_; rintro e w1 ⟨rfl, hb⟩) | (go_at_call 22; refine (HW.out _).mono ?_; rintro e w2 ⟨rfl, ⟨nd, rfl⟩⟩))
      have HB0 : Aside0 (Below w.heap.size w (w1.drewN nd)) := ⟨belDN (belW (belA (Below.refl _ _)) hb)⟩
      clear hb
      go_loopw [11] (fun v wr => ∃ j : Nat, v = .int .i64 ((j : Int) - 1) ∧ Aside0 (j ≤ 201) ∧ Aside0 (bestC (l2.map grOf) a0 a1 a3 j = (r1, r2)) ∧ Aside0 (Below w.heap.size w wr)) (fun v _ => (intOf v + 1).toNat)
      case atStart => exact ⟨201, rfl, ⟨by omega⟩, HB, HB0⟩
      case round =>
        obtain ⟨j, rfl, HJ, HE, HBW⟩ := hrel
        match j, HJ, HE with
        | 0, HJ, HE =>
          have he := HE.out
          obtain ⟨rfl, rfl⟩ : 0 = r1 ∧ 6 = r2 := by simpa [bestC] using he
          clear he HE
          go_wp2
          go_ret2
          exact ⟨rfl, HBW.out⟩
        | j + 1, HJ, HE =>
          have ej : ((j + 1 : Nat) : Int) - 1 = (j : Int) := by omega
          rw [ej]
          have hj := HJ.out
          have q0 : decide ((0 : Int) ≤ (j : Int)) = true := decide_eq_true (by omega)
          have q1 : ((0 : Int) ≤ (j : Int)) = True := eq_true (by omega)
          have x1 : IntKind.i64.wrap ((j : Int) - 1) = (j : Int) - 1 := IntWalk.i64_in _ (by omega)
          have HP := Aside0.mk (plannerC (j : Int) a1 (l2.map grOf) A2 l2.length c2 wr)
          obtain ⟨L, hL⟩ : ∃ L, leastP (j : Int) a1 (l2.map grOf) a0 = L := ⟨_, rfl⟩
          have HQ := Aside0.mk (fun w5 hb5 S5 => leastW (j : Int) a1 (by omega) (by omega) m0 m1 l2 HL.out HH.out A2 c2 (wr.heap.size + 1 + 1) wr.heap.size (wr.heap.size + 1) wr (Kd.C_below HR2.out HBW.out) (by omega) (Nat.le_refl _) l2.length 0 (by omega) a0 s0 s1 0 HCN.out w5 hb5 S5)
          simp only [List.drop_zero, hL] at HQ
          have he := HE.out
          simp only [bestC, hL] at he
          clear HE hL ej
          by_cases hc : L ≤ a3
          · rw [if_pos hc] at he
            obtain ⟨rfl, rfl⟩ : (j : Int) = r1 ∧ 0 = r2 := by simpa using he
            have q2 : decide (L ≤ a3) = true := decide_eq_true hc
            clear he hc
            go_wp2_with (first | (go_at_call 23; refine HP.out.mono ?_; rintro e w5 ⟨rfl, S5, hb5⟩; have HB5 := Aside0.mk (belW HBW.out hb5)) | (go_at_call 24; refine (HQ.out w5 hb5 S5).mono ?_; rintro e w6 ⟨rfl, S6, g6⟩))
            go_ret2
            exact ⟨rfl, Below.grown HB5.out g6 HB5.out.size (fun k e => by cases e; exact HBW.out.size)⟩
          · rw [if_neg hc] at he
            have q2 : decide (L ≤ a3) = false := decide_eq_false hc
            have HE := Aside0.mk he
            clear he hc
            go_wp2_with (first | (go_at_call 23; refine HP.out.mono ?_; rintro e w5 ⟨rfl, S5, hb5⟩; have HB5 := Aside0.mk (belW HBW.out hb5)) | (go_at_call 24; refine (HQ.out w5 hb5 S5).mono ?_; rintro e w6 ⟨rfl, S6, g6⟩))
            refine ⟨?_, by first | (simp [intOf]; done) | (simp [intOf]; omega)⟩
            have hB6 : Below w.heap.size w w6 := Below.grown HB5.out g6 HB5.out.size (fun k e => by cases e; exact HBW.out.size)
            first | exact ⟨j, by go_num, ⟨by omega⟩, HE, ⟨hB6⟩⟩ | ((repeat (apply Exists.intro)); exact ⟨⟨j, by go_num, ⟨by omega⟩, HE, ⟨hB6⟩⟩, rfl⟩)
    · rw [if_neg h3] at h2
      obtain ⟨rfl, rfl⟩ : 0 = r1 ∧ 2 = r2 := by simpa using h2
      have hw0 : impl_within.f a3 0 30 = some false := by
        unfold impl_within.f
        by_cases q : (0 : Int) ≤ a3
        · rw [if_pos q, decide_eq_false (fun q2 => h3 ⟨q, q2⟩)]
        · rw [if_neg q]
      have HW := Aside0.mk (fun w => impl_within.calls a3 0 30 false w hw0)
      clear h2 hw0 h3
      go_enter Try.func8, Try.ntmps8
      go_wp2_with (first | (go_at_call 21; refine (HC.out w (Kd.C_alloc HR2.out _) (pairC (blkN rfl))).mono ?_; rintro e w1 ⟨rfl, hb⟩) | (go_at_call 22; refine (HW.out _).mono ?_; rintro e w2 ⟨rfl, ⟨nd, rfl⟩⟩))
      go_ret2
      exact ⟨rfl, belDN (belW (belA (Below.refl _ _)) hb)⟩
  · rw [if_neg h0] at h2
    obtain ⟨rfl, rfl⟩ : 0 = r1 ∧ c = r2 := by simpa using h2
    have q1 : (c == 0) = false := by simpa using h0
    have q2 : (c != 0) = true := by simpa using h0
    clear h2 h0
    go_enter Try.func8, Try.ntmps8
    go_wp2_with (first | (go_at_call 21; refine (HC.out w (Kd.C_alloc HR2.out _) (pairC (blkN rfl))).mono ?_; rintro e w1 ⟨rfl, hb⟩))
    go_ret2
    exact ⟨rfl, belW (belA (Below.refl _ _)) hb⟩
end

/-! ### laws_eqWeather: function 25 -/
def laws_eqWeather.f (a0_0 : Int) (a0_1 : Int) (a1_0 : Int) (a1_1 : Int) : Option (Bool) := if a0_0 = a1_0 then (if a0_1 = a1_1 then (some true) else (some false)) else (some false)
set_option maxHeartbeats 8000000 in
set_option maxRecDepth 100000 in
theorem laws_eqWeather.calls (a0_0 : Int) (a0_1 : Int) (a1_0 : Int) (a1_1 : Int) (r : Bool) (w : World) (h : laws_eqWeather.f a0_0 a0_1 a1_0 a1_1 = some r) :
    Calls Try.prog 25 #[.agg #[.int .i8 a0_0, .int .i8 a0_1], .agg #[.int .i8 a1_0, .int .i8 a1_1]] w fun e w' => e = .returned (.bool r) ∧ Below w.heap.size w w' := by
  have hu43 := Try.underlying43
  have HB := Aside0.mk (Below.refl w.heap.size w)
  have H : (if a0_0 = a1_0 then (if a0_1 = a1_1 then (some true) else (some false)) else (some false)) = some r := h
  clear h
  by_cases c3 : a0_0 = a1_0
  · rw [if_pos c3] at H
    have c3b0 : (a0_0 == a1_0) = true := beq_iff_eq.mpr c3
    have c3b1 : (a0_0 != a1_0) = false := bne_eq_false_iff_eq.mpr c3
    clear c3
    by_cases c4 : a0_1 = a1_1
    · rw [if_pos c4] at H
      have c4b0 : (a0_1 == a1_1) = true := beq_iff_eq.mpr c4
      have c4b1 : (a0_1 != a1_1) = false := bne_eq_false_iff_eq.mpr c4
      clear c4
      obtain rfl := Option.some.inj H
      go_enter Try.func25, Try.ntmps25
      go_wp2_with (first | ((with_reducible refine gate_dst (N := 2) rfl ?_); refine box_event ?hg (N := 2) ?hd (cs := #[.int .i8 a0_0, .int .i8 a0_1]) (t := 43) ?hr ?_; (case hd => rfl); (case hg => rfl); (case hr => first | (go_simp; done) | (go_simp; rfl)); intro gb145 hg w5 hbox hb; have n0_ := Aside0.mk (below_step (by repeat (first | (with_reducible first | exact HB.out | apply below_alloc | apply pw_below_drewN | apply below_drew1) | exact HB.out)) hb); have n1_ := Aside0.mk (hbox); have n2_ := Aside0.mk ((by rw [hg]; exact (below_size (by repeat (first | (with_reducible first | exact HB.out | apply below_alloc | apply pw_below_drewN | apply below_drew1) | exact HB.out))) : w.heap.size ≤ gb145)); have n3_ := Aside0.mk ((by rw [hg]; exact (below_size (by repeat (first | (with_reducible first | exact HB.out | apply below_alloc | apply pw_below_drewN | apply below_drew1) | exact HB.out))) : w.heap.size ≤ gb145)); clear HB; have HB := n0_; have BK145 := n1_; have GW145 := n2_; have GE145 := n3_; clear n0_ n1_ n2_ n3_; clear hb hbox hg) | ((with_reducible refine gate_dst (N := 3) rfl ?_); refine box_event ?hg (N := 3) ?hd (cs := #[.int .i8 a1_0, .int .i8 a1_1]) (t := 43) ?hr ?_; (case hd => rfl); (case hg => rfl); (case hr => first | (go_simp; done) | (go_simp; rfl)); intro gb146 hg w6 hbox hb; have n0_ := Aside0.mk (blk_below (g := gb145) (o := .cells #[.int .i8 a0_0, .int .i8 a0_1] 43 (0, 0)) (by (with_reducible repeat (first | refine blk_drewN ?_ _ | refine blk_drew ?_ | refine blk_alloc ?_ _)); exact BK145.out) hb); have n1_ := Aside0.mk (below_step (by repeat (first | (with_reducible first | exact HB.out | apply below_alloc | apply pw_below_drewN | apply below_drew1 | refine below_set ?_ GE145.out) | exact HB.out)) hb); have n2_ := Aside0.mk (hbox); have n3_ := Aside0.mk ((by rw [hg]; exact (below_size (by repeat (first | (with_reducible first | exact HB.out | apply below_alloc | apply pw_below_drewN | apply below_drew1 | refine below_set ?_ GE145.out) | exact HB.out))) : w.heap.size ≤ gb146)); have n4_ := Aside0.mk ((by rw [hg]; exact (below_size (by repeat (first | (with_reducible first | exact HB.out | apply below_alloc | apply pw_below_drewN | apply below_drew1 | refine below_set ?_ GE145.out) | exact HB.out))) : w.heap.size ≤ gb146)); have n5_ := Aside0.mk ((by rw [hg]; exact Nat.ne_of_lt (blk_lt (g := gb145) (o := .cells #[.int .i8 a0_0, .int .i8 a0_1] 43 (0, 0)) (by (with_reducible repeat (first | refine blk_drewN ?_ _ | refine blk_drew ?_ | refine blk_alloc ?_ _)); exact BK145.out)) : gb145 ≠ gb146)); have n6_ := Aside0.mk ((by rw [hg]; exact Nat.ne_of_gt (blk_lt (g := gb145) (o := .cells #[.int .i8 a0_0, .int .i8 a0_1] 43 (0, 0)) (by (with_reducible repeat (first | refine blk_drewN ?_ _ | refine blk_drew ?_ | refine blk_alloc ?_ _)); exact BK145.out)) : gb146 ≠ gb145)); clear BK145; clear HB; have BK145 := n0_; have HB := n1_; have BK146 := n2_; have GW146 := n3_; have GE146 := n4_; have NB145_146 := n5_; have NB146_145 := n6_; clear n0_ n1_ n2_ n3_ n4_ n5_ n6_; clear hb hbox hg; have hnb7 := NB145_146.out; have hnc7 := NB146_145.out; have hcz8_0 : w6.cell? ⟨gb145, 0, none⟩ = some (.int .i8 a0_0) := (blk_cell BK145.out 0).trans rfl; have hcz8_1 : w6.cell? ⟨gb145, 1, none⟩ = some (.int .i8 a0_1) := (blk_cell BK145.out 1).trans rfl; have hfz8_0 := blk_frozen BK145.out 0; have hfz8_1 := blk_frozen BK145.out 1; have hcz9_0 : w6.cell? ⟨gb146, 0, none⟩ = some (.int .i8 a1_0) := (blk_cell BK146.out 0).trans rfl; have hcz9_1 : w6.cell? ⟨gb146, 1, none⟩ = some (.int .i8 a1_1) := (blk_cell BK146.out 1).trans rfl; have hfz9_0 := blk_frozen BK146.out 0; have hfz9_1 := blk_frozen BK146.out 1))
      go_ret
      exact ⟨by first | rfl | (simp [errW_none, errW_some] <;> rfl) | (simp [*, errW_none, errW_some] <;> rfl), by repeat (first | (with_reducible first | exact HB.out | apply below_alloc | apply pw_below_drewN | apply below_drew1 | refine below_set ?_ GE145.out | refine below_set ?_ GE146.out) | exact HB.out)⟩
    · rw [if_neg c4] at H
      have c4b0 : (a0_1 == a1_1) = false := beq_eq_false_iff_ne.mpr c4
      have c4b1 : (a0_1 != a1_1) = true := bne_iff_ne.mpr c4
      obtain rfl := Option.some.inj H
      go_enter Try.func25, Try.ntmps25
      go_wp2_with (first | ((with_reducible refine gate_dst (N := 2) rfl ?_); refine box_event ?hg (N := 2) ?hd (cs := #[.int .i8 a0_0, .int .i8 a0_1]) (t := 43) ?hr ?_; (case hd => rfl); (case hg => rfl); (case hr => first | (go_simp; done) | (go_simp; rfl)); intro gb145 hg w10 hbox hb; have n0_ := Aside0.mk (below_step (by repeat (first | (with_reducible first | exact HB.out | apply below_alloc | apply pw_below_drewN | apply below_drew1) | exact HB.out)) hb); have n1_ := Aside0.mk (hbox); have n2_ := Aside0.mk ((by rw [hg]; exact (below_size (by repeat (first | (with_reducible first | exact HB.out | apply below_alloc | apply pw_below_drewN | apply below_drew1) | exact HB.out))) : w.heap.size ≤ gb145)); have n3_ := Aside0.mk ((by rw [hg]; exact (below_size (by repeat (first | (with_reducible first | exact HB.out | apply below_alloc | apply pw_below_drewN | apply below_drew1) | exact HB.out))) : w.heap.size ≤ gb145)); clear HB; have HB := n0_; have BK145 := n1_; have GW145 := n2_; have GE145 := n3_; clear n0_ n1_ n2_ n3_; clear hb hbox hg) | ((with_reducible refine gate_dst (N := 3) rfl ?_); refine box_event ?hg (N := 3) ?hd (cs := #[.int .i8 a1_0, .int .i8 a1_1]) (t := 43) ?hr ?_; (case hd => rfl); (case hg => rfl); (case hr => first | (go_simp; done) | (go_simp; rfl)); intro gb146 hg w11 hbox hb; have n0_ := Aside0.mk (blk_below (g := gb145) (o := .cells #[.int .i8 a0_0, .int .i8 a0_1] 43 (0, 0)) (by (with_reducible repeat (first | refine blk_drewN ?_ _ | refine blk_drew ?_ | refine blk_alloc ?_ _)); exact BK145.out) hb); have n1_ := Aside0.mk (below_step (by repeat (first | (with_reducible first | exact HB.out | apply below_alloc | apply pw_below_drewN | apply below_drew1 | refine below_set ?_ GE145.out) | exact HB.out)) hb); have n2_ := Aside0.mk (hbox); have n3_ := Aside0.mk ((by rw [hg]; exact (below_size (by repeat (first | (with_reducible first | exact HB.out | apply below_alloc | apply pw_below_drewN | apply below_drew1 | refine below_set ?_ GE145.out) | exact HB.out))) : w.heap.size ≤ gb146)); have n4_ := Aside0.mk ((by rw [hg]; exact (below_size (by repeat (first | (with_reducible first | exact HB.out | apply below_alloc | apply pw_below_drewN | apply below_drew1 | refine below_set ?_ GE145.out) | exact HB.out))) : w.heap.size ≤ gb146)); have n5_ := Aside0.mk ((by rw [hg]; exact Nat.ne_of_lt (blk_lt (g := gb145) (o := .cells #[.int .i8 a0_0, .int .i8 a0_1] 43 (0, 0)) (by (with_reducible repeat (first | refine blk_drewN ?_ _ | refine blk_drew ?_ | refine blk_alloc ?_ _)); exact BK145.out)) : gb145 ≠ gb146)); have n6_ := Aside0.mk ((by rw [hg]; exact Nat.ne_of_gt (blk_lt (g := gb145) (o := .cells #[.int .i8 a0_0, .int .i8 a0_1] 43 (0, 0)) (by (with_reducible repeat (first | refine blk_drewN ?_ _ | refine blk_drew ?_ | refine blk_alloc ?_ _)); exact BK145.out)) : gb146 ≠ gb145)); clear BK145; clear HB; have BK145 := n0_; have HB := n1_; have BK146 := n2_; have GW146 := n3_; have GE146 := n4_; have NB145_146 := n5_; have NB146_145 := n6_; clear n0_ n1_ n2_ n3_ n4_ n5_ n6_; clear hb hbox hg; have hnb12 := NB145_146.out; have hnc12 := NB146_145.out; have hcz13_0 : w11.cell? ⟨gb145, 0, none⟩ = some (.int .i8 a0_0) := (blk_cell BK145.out 0).trans rfl; have hcz13_1 : w11.cell? ⟨gb145, 1, none⟩ = some (.int .i8 a0_1) := (blk_cell BK145.out 1).trans rfl; have hfz13_0 := blk_frozen BK145.out 0; have hfz13_1 := blk_frozen BK145.out 1; have hcz14_0 : w11.cell? ⟨gb146, 0, none⟩ = some (.int .i8 a1_0) := (blk_cell BK146.out 0).trans rfl; have hcz14_1 : w11.cell? ⟨gb146, 1, none⟩ = some (.int .i8 a1_1) := (blk_cell BK146.out 1).trans rfl; have hfz14_0 := blk_frozen BK146.out 0; have hfz14_1 := blk_frozen BK146.out 1))
      go_ret
      exact ⟨by first | rfl | (simp [errW_none, errW_some] <;> rfl) | (simp [*, errW_none, errW_some] <;> rfl), by repeat (first | (with_reducible first | exact HB.out | apply below_alloc | apply pw_below_drewN | apply below_drew1 | refine below_set ?_ GE145.out | refine below_set ?_ GE146.out) | exact HB.out)⟩
  · rw [if_neg c3] at H
    have c3b0 : (a0_0 == a1_0) = false := beq_eq_false_iff_ne.mpr c3
    have c3b1 : (a0_0 != a1_0) = true := bne_iff_ne.mpr c3
    obtain rfl := Option.some.inj H
    go_enter Try.func25, Try.ntmps25
    go_wp2_with (first | ((with_reducible refine gate_dst (N := 2) rfl ?_); refine box_event ?hg (N := 2) ?hd (cs := #[.int .i8 a0_0, .int .i8 a0_1]) (t := 43) ?hr ?_; (case hd => rfl); (case hg => rfl); (case hr => first | (go_simp; done) | (go_simp; rfl)); intro gb145 hg w15 hbox hb; have n0_ := Aside0.mk (below_step (by repeat (first | (with_reducible first | exact HB.out | apply below_alloc | apply pw_below_drewN | apply below_drew1) | exact HB.out)) hb); have n1_ := Aside0.mk (hbox); have n2_ := Aside0.mk ((by rw [hg]; exact (below_size (by repeat (first | (with_reducible first | exact HB.out | apply below_alloc | apply pw_below_drewN | apply below_drew1) | exact HB.out))) : w.heap.size ≤ gb145)); have n3_ := Aside0.mk ((by rw [hg]; exact (below_size (by repeat (first | (with_reducible first | exact HB.out | apply below_alloc | apply pw_below_drewN | apply below_drew1) | exact HB.out))) : w.heap.size ≤ gb145)); clear HB; have HB := n0_; have BK145 := n1_; have GW145 := n2_; have GE145 := n3_; clear n0_ n1_ n2_ n3_; clear hb hbox hg) | ((with_reducible refine gate_dst (N := 3) rfl ?_); refine box_event ?hg (N := 3) ?hd (cs := #[.int .i8 a1_0, .int .i8 a1_1]) (t := 43) ?hr ?_; (case hd => rfl); (case hg => rfl); (case hr => first | (go_simp; done) | (go_simp; rfl)); intro gb146 hg w16 hbox hb; have n0_ := Aside0.mk (blk_below (g := gb145) (o := .cells #[.int .i8 a0_0, .int .i8 a0_1] 43 (0, 0)) (by (with_reducible repeat (first | refine blk_drewN ?_ _ | refine blk_drew ?_ | refine blk_alloc ?_ _)); exact BK145.out) hb); have n1_ := Aside0.mk (below_step (by repeat (first | (with_reducible first | exact HB.out | apply below_alloc | apply pw_below_drewN | apply below_drew1 | refine below_set ?_ GE145.out) | exact HB.out)) hb); have n2_ := Aside0.mk (hbox); have n3_ := Aside0.mk ((by rw [hg]; exact (below_size (by repeat (first | (with_reducible first | exact HB.out | apply below_alloc | apply pw_below_drewN | apply below_drew1 | refine below_set ?_ GE145.out) | exact HB.out))) : w.heap.size ≤ gb146)); have n4_ := Aside0.mk ((by rw [hg]; exact (below_size (by repeat (first | (with_reducible first | exact HB.out | apply below_alloc | apply pw_below_drewN | apply below_drew1 | refine below_set ?_ GE145.out) | exact HB.out))) : w.heap.size ≤ gb146)); have n5_ := Aside0.mk ((by rw [hg]; exact Nat.ne_of_lt (blk_lt (g := gb145) (o := .cells #[.int .i8 a0_0, .int .i8 a0_1] 43 (0, 0)) (by (with_reducible repeat (first | refine blk_drewN ?_ _ | refine blk_drew ?_ | refine blk_alloc ?_ _)); exact BK145.out)) : gb145 ≠ gb146)); have n6_ := Aside0.mk ((by rw [hg]; exact Nat.ne_of_gt (blk_lt (g := gb145) (o := .cells #[.int .i8 a0_0, .int .i8 a0_1] 43 (0, 0)) (by (with_reducible repeat (first | refine blk_drewN ?_ _ | refine blk_drew ?_ | refine blk_alloc ?_ _)); exact BK145.out)) : gb146 ≠ gb145)); clear BK145; clear HB; have BK145 := n0_; have HB := n1_; have BK146 := n2_; have GW146 := n3_; have GE146 := n4_; have NB145_146 := n5_; have NB146_145 := n6_; clear n0_ n1_ n2_ n3_ n4_ n5_ n6_; clear hb hbox hg; have hnb17 := NB145_146.out; have hnc17 := NB146_145.out; have hcz18_0 : w16.cell? ⟨gb145, 0, none⟩ = some (.int .i8 a0_0) := (blk_cell BK145.out 0).trans rfl; have hcz18_1 : w16.cell? ⟨gb145, 1, none⟩ = some (.int .i8 a0_1) := (blk_cell BK145.out 1).trans rfl; have hfz18_0 := blk_frozen BK145.out 0; have hfz18_1 := blk_frozen BK145.out 1; have hcz19_0 : w16.cell? ⟨gb146, 0, none⟩ = some (.int .i8 a1_0) := (blk_cell BK146.out 0).trans rfl; have hcz19_1 : w16.cell? ⟨gb146, 1, none⟩ = some (.int .i8 a1_1) := (blk_cell BK146.out 1).trans rfl; have hfz19_0 := blk_frozen BK146.out 0; have hfz19_1 := blk_frozen BK146.out 1))
    go_ret
    exact ⟨by first | rfl | (simp [errW_none, errW_some] <;> rfl) | (simp [*, errW_none, errW_some] <;> rfl), by repeat (first | (with_reducible first | exact HB.out | apply below_alloc | apply pw_below_drewN | apply below_drew1 | refine below_set ?_ GE145.out | refine below_set ?_ GE146.out) | exact HB.out)⟩

end Go.Proofs.Ytkebohpfneiimaa.QM
