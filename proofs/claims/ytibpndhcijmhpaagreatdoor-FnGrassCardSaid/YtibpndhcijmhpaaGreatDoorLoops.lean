/- The law's loops. -/
import Derived.Test.YtibpndhcijmhpaaGreatDoorRg3
import Derived.Test.YtibpndhcijmhpaaGreatDoorRg4
import Derived.Test.YtibpndhcijmhpaaGreatDoorRg6
import Derived.Deep.LoopGhost
namespace Go.Proofs.YtibpndhcijmhpaaGreatDoor.B
open Go.RowKit Go.Proofs.YtibpndhcijmhpaaGreatDoorW.PrintLast Go.Proofs.YtibpndhcijmhpaaGreatDoorW.PrintWords Go.Proofs.YtibpndhcijmhpaaGreatDoor.QG
set_option linter.unusedSimpArgs false
set_option linter.unusedVariables false
set_option maxRecDepth 100000
def blockIn : Code → Nat → Option Code
  | .block i c, k => bif Nat.beq i k then some (.block i c) else blockIn c k
  | .seq a b, k => match blockIn a k with
    | some o => some o
    | none => blockIn b k
  | .cond _ a b, k => match blockIn a k with
    | some o => some o
    | none => blockIn b k
  | .loop c, k => blockIn c k
  | .scope c, k => blockIn c k
  | _, _ => none
/-- The body's block of that number. -/
def blockOf (f : Func) (k : Nat) : Code := ((f.body.bind fun c => blockIn c k)).getD .skip
theorem exit_here {id : Nat} {Q : Exit → Act → World → Prop} {a : Act} {w : World} (h : Q .normal a w) : Exit.inBlock id Q (.exit id) a w := by
  show if id = id then Q .normal a w else Q (.exit id) a w
  rw [if_pos rfl]
  exact h
theorem then_exit {K : Act → World → Prop} {id : Nat} {Q : Exit → Act → World → Prop} {a : Act} {w : World} (h : Q (.exit id) a w) : Exit.then K Q (.exit id) a w := h
theorem Fr.to {n : Nat} {a : Act} {m m' : List (Nat × Value)} (h : Fr n a m) (hs : Has m m' := by repeat (first | exact trivial | refine ⟨rfl, ?_⟩)) : Fr n a m' := h.sub hs
section
variable {Q : Exit → Act → World → Prop} {w0 w : World} {a : Act}

/-- The days' loop. -/
theorem loop0 {v0 v1 v5 v6 v13 v17 v21 : Value} {code more ps gs hs cs : List Int} {xs : List S43} {cut : Int} (hF : Fr 639 a [(0, v0), (1, v1), (5, v5), (6, v6), (8, .int .i64 (cut)), (13, v13), (17, v17), (21, v21), (24, .int .i64 (0))]) (hS : St w0 w [.b v0 code, .b v1 more, .d v5 xs, .n v6 ps, .n v13 gs, .n v17 hs, .n v21 cs]) (hl : xs.length ≤ 8) (hp : ps.length ≤ 100) (hx : ∀ x ∈ xs, DayIn x) (hg : gs.length = xs.length) (hh : hs.length = xs.length) (k0 : 0 ≤ cut) (k1 : cut ≤ 200)
    (ho : ∀ i : Nat, i < xs.length → rd gs (i : Int) = gr (rd_T43 xs (i : Int))) (hlow : ∀ i : Nat, i < xs.length → (i : Int) ∈ ps → rd hs (i : Int) ≤ cut + gr (rd_T43 xs (i : Int)))
    (hq : ∀ a w, Fr 639 a [(0, v0), (1, v1), (5, v5), (6, v6), (8, .int .i64 (cut)), (13, v13), (17, v17), (21, v21)] → St w0 w [.b v0 code, .b v1 more, .d v5 xs, .n v6 ps, .n v13 gs, .n v17 hs, .n v21 cs] → Q .normal a w) : (blockOf Tryz.f3 0).wp Tryz.prog Q a w := by
  conv => arg 2; whnf
  refine wp_block (wp_loop_ghost (fun g a w => ∃ i : Nat, i + g = xs.length ∧ Fr 639 a [(0, v0), (1, v1), (5, v5), (6, v6), (8, .int .i64 (cut)), (13, v13), (17, v17), (21, v21), (24, .int .i64 ((i : Int)))] ∧ St w0 w [.b v0 code, .b v1 more, .d v5 xs, .n v6 ps, .n v13 gs, .n v17 hs, .n v21 cs]) xs.length ⟨0, by omega, hF.to, hS⟩ ?_)
  rintro g a w ⟨i, hi, hF, hS⟩
  refine wp_seq_k fun K1 hK1 => wp_seq_k fun K2 hK2 => ?_
  by_cases c : i < xs.length
  · refine rg22a hF hS c fun a w hF hS => hK2 _ _ (wp_cond_true (hF.at rfl) (wp_skip (hK1 _ _ ?_)))
    have hd := hx _ (rd_mem xs i c)
    have hgr := gr_in hd
    refine wp_seq_k fun K3 hK3 => wp_block (wp_seq_k fun K4 hK4 => ?_)
    refine rg24 hF.to hS c hd fun a w hF hS => hK4 _ _ (wp_seq_k fun K5 hK5 => wp_seq_k fun K6 hK6 => ?_)
    refine rg25 hF.to hS c hg hd (ho i c) fun a hF hS => hK6 _ _ (wp_cond_false (hF.at rfl) (wp_skip (hK5 _ _ ?_)))
    refine wp_seq_k fun K7 hK7 => ?_
    have fin : ∀ a w, Fr 639 a [(0, v0), (1, v1), (5, v5), (6, v6), (8, .int .i64 (cut)), (13, v13), (17, v17), (21, v21), (24, .int .i64 ((i : Int))), (294, .bool false)] → St w0 w [.b v0 code, .b v1 more, .d v5 xs, .n v6 ps, .n v13 gs, .n v17 hs, .n v21 cs] → K7 a w := fun a w hF hS => hK7 _ _ (wp_cond_false (hF.at rfl) (wp_skip (hK3 _ _ (rg23 hF.to hS (by omega) fun a w hF hS => ⟨g - 1, by omega, i + 1, by omega, hF, hS⟩))))
    have hn := HasNumber_is ps i hp
    by_cases c2 : (i : Int) ∈ ps
    · rw [decide_eq_true c2] at hn
      exact rg27a hF.to hS c hh hn k0 k1 hgr.1 hgr.2 (hlow i c c2) fun a w hF hS => fin a w hF hS
    · rw [decide_eq_false c2] at hn
      exact rg27b hF.to hS hn fun a w hF hS => fin a w hF hS
  · exact rg22b hF hS c fun a w hF hS => hK2 _ _ (wp_cond_false (hF.at rfl) (wp_exit (show Exit.inBlock 0 Q (.exit 0) a w from exit_here (hq _ _ hF.to hS))))
/-- The clips' loop. -/
theorem loop2 {v0 v1 v5 v21 : Value} {code more cs : List Int} {xs : List S43} (hF : Fr 639 a [(0, v0), (1, v1), (5, v5), (21, v21), (27, .int .i64 (0))]) (hS : St w0 w [.b v0 code, .b v1 more, .d v5 xs, .n v21 cs]) (hl : cs.length ≤ 30) (hc : ∀ i : Nat, i < cs.length → 0 ≤ rd cs (i : Int))
    (hq : ∀ a w, Fr 639 a [(0, v0), (1, v1), (5, v5), (21, v21)] → St w0 w [.b v0 code, .b v1 more, .d v5 xs, .n v21 cs] → Q .normal a w) : (blockOf Tryz.f3 2).wp Tryz.prog Q a w := by
  conv => arg 2; whnf
  refine wp_block (wp_loop_ghost (fun g a w => ∃ i : Nat, i + g = cs.length ∧ Fr 639 a [(0, v0), (1, v1), (5, v5), (21, v21), (27, .int .i64 ((i : Int)))] ∧ St w0 w [.b v0 code, .b v1 more, .d v5 xs, .n v21 cs]) cs.length ⟨0, by omega, hF.to, hS⟩ ?_)
  rintro g a w ⟨i, hi, hF, hS⟩
  refine wp_seq_k fun K1 hK1 => wp_seq_k fun K2 hK2 => ?_
  by_cases c : i < cs.length
  · refine rg30a hF hS c fun a w hF hS => hK2 _ _ (wp_cond_true (hF.at rfl) (wp_skip (hK1 _ _ ?_)))
    refine wp_seq_k fun K3 hK3 => wp_block (wp_seq_k fun K4 hK4 => ?_)
    exact rg32 hF.to hS c (hc i c) fun a w hF hS => hK4 _ _ (wp_cond_false (hF.at rfl) (wp_skip (hK3 _ _ (rg31 hF.to hS (by omega) fun a w hF hS => ⟨g - 1, by omega, i + 1, by omega, hF, hS⟩))))
  · exact rg30b hF hS c fun a w hF hS => hK2 _ _ (wp_cond_false (hF.at rfl) (wp_exit (show Exit.inBlock 2 Q (.exit 2) a w from exit_here (hq _ _ hF.to hS))))
/-- The boxes' loop. -/
theorem loop4 {v0 v1 v5 v21 v30 : Value} {code more cs bs : List Int} {xs : List S43} (hF : Fr 639 a [(0, v0), (1, v1), (5, v5), (21, v21), (30, v30), (32, .int .i64 (0))]) (hS : St w0 w [.b v0 code, .b v1 more, .d v5 xs, .n v21 cs, .n v30 bs]) (hl : cs.length ≤ 30) (hb : bs.length = cs.length) (hc : ∀ i : Nat, i < cs.length → (0 ≤ rd cs (i : Int) ∧ rd cs (i : Int) ≤ 200) ∧ rd bs (i : Int) = (rd cs (i : Int) * 30 + 99) / 100)
    (hq : ∀ a w, Fr 639 a [(0, v0), (1, v1), (5, v5), (21, v21), (30, v30)] → St w0 w [.b v0 code, .b v1 more, .d v5 xs, .n v21 cs, .n v30 bs] → Q .normal a w) : (blockOf Tryz.f3 4).wp Tryz.prog Q a w := by
  conv => arg 2; whnf
  refine wp_block (wp_loop_ghost (fun g a w => ∃ i : Nat, i + g = cs.length ∧ Fr 639 a [(0, v0), (1, v1), (5, v5), (21, v21), (30, v30), (32, .int .i64 ((i : Int)))] ∧ St w0 w [.b v0 code, .b v1 more, .d v5 xs, .n v21 cs, .n v30 bs]) cs.length ⟨0, by omega, hF.to, hS⟩ ?_)
  rintro g a w ⟨i, hi, hF, hS⟩
  refine wp_seq_k fun K1 hK1 => wp_seq_k fun K2 hK2 => ?_
  by_cases c : i < cs.length
  · refine rg39a hF hS c fun a w hF hS => hK2 _ _ (wp_cond_true (hF.at rfl) (wp_skip (hK1 _ _ ?_)))
    have hm := hc i c
    refine wp_seq_k fun K3 hK3 => wp_block (wp_seq_k fun K4 hK4 => ?_)
    exact rg41 hF.to hS c hb hm.1.1 hm.1.2 hm.2 fun a hF hS => hK4 _ _ (wp_cond_false (hF.at rfl) (wp_skip (hK3 _ _ (rg40 hF.to hS (by omega) fun a w hF hS => ⟨g - 1, by omega, i + 1, by omega, hF, hS⟩))))
  · exact rg39b hF hS c fun a w hF hS => hK2 _ _ (wp_cond_false (hF.at rfl) (wp_exit (show Exit.inBlock 4 Q (.exit 4) a w from exit_here (hq _ _ hF.to hS))))
/-- A day's span. -/
theorem loop8 {v0 v1 v5 v48 : Value} {code more ss : List Int} {xs : List S43} {b q c dd : Nat} {a_ s_ : Int} {i r : Nat} (hF : Fr 639 a [(0, v0), (1, v1), (5, v5), (35, .int .i64 ((c : Int))), (36, .int .i64 ((b : Int))), (37, .int .i64 ((q : Int))), (39, .int .i64 ((dd : Int))), (43, .int .i64 (a_)), (44, .int .i64 (s_)), (48, v48), (50, .int .i64 ((r : Int))), (51, .int .i64 ((i : Int))), (52, .int .i64 (0)), (53, .bool true), (54, .int .i64 (0))]) (hS : St w0 w [.b v0 code, .b v1 more, .d v5 xs, .n v48 ss]) (hl : xs.length ≤ 8) (hd : dd ≤ 30) (hx : ∀ x ∈ xs, DayIn x) (hi : i + dd ≤ xs.length)
    (hq : ∀ a w, Fr 639 a [(0, v0), (1, v1), (5, v5), (35, .int .i64 ((c : Int))), (36, .int .i64 ((b : Int))), (37, .int .i64 ((q : Int))), (39, .int .i64 ((dd : Int))), (43, .int .i64 (a_)), (44, .int .i64 (s_)), (48, v48), (50, .int .i64 ((r : Int))), (51, .int .i64 ((i : Int))), (52, .int .i64 (rainM xs i dd)), (53, .bool (noneB xs 5 10 i dd))] → St w0 w [.b v0 code, .b v1 more, .d v5 xs, .n v48 ss] → Q .normal a w) : (blockOf Tryz.f3 8).wp Tryz.prog Q a w := by
  conv => arg 2; whnf
  refine wp_block (wp_loop_ghost (fun g a w => ∃ k : Nat, k + g = dd ∧ Fr 639 a [(0, v0), (1, v1), (5, v5), (35, .int .i64 ((c : Int))), (36, .int .i64 ((b : Int))), (37, .int .i64 ((q : Int))), (39, .int .i64 ((dd : Int))), (43, .int .i64 (a_)), (44, .int .i64 (s_)), (48, v48), (50, .int .i64 ((r : Int))), (51, .int .i64 ((i : Int))), (52, .int .i64 (rainM xs i k)), (53, .bool (noneB xs 5 10 i k)), (54, .int .i64 ((k : Int)))] ∧ St w0 w [.b v0 code, .b v1 more, .d v5 xs, .n v48 ss]) dd ⟨0, by omega, hF.to, hS⟩ ?_)
  rintro g a w ⟨k, hk, hF, hS⟩
  refine wp_seq_k fun K1 hK1 => wp_seq_k fun K2 hK2 => ?_
  by_cases cc : k < dd
  · refine rg67a hF hS cc fun a w hF hS => hK2 _ _ (wp_cond_true (hF.at rfl) (wp_skip (hK1 _ _ ?_)))
    have q4 : i + k < xs.length := by omega
    obtain ⟨w2, w3⟩ := day_w (hx _ (rd_mem xs (i + k) q4))
    have hne := noneB_succ xs 5 10 i k
    unfold poor_ at hne
    rw [w2, w3] at hne
    refine wp_seq_k fun K3 hK3 => wp_block (wp_seq_k fun K4 hK4 => ?_)
    refine rg69 hF.to hS q4 (by omega) hx (by omega) fun a w hF hS => hK4 _ _ ?_
    have fin : ∀ a w (fb : Bool), noneB xs 5 10 i (k + 1) = fb → Fr 639 a [(0, v0), (1, v1), (5, v5), (35, .int .i64 ((c : Int))), (36, .int .i64 ((b : Int))), (37, .int .i64 ((q : Int))), (39, .int .i64 ((dd : Int))), (43, .int .i64 (a_)), (44, .int .i64 (s_)), (48, v48), (50, .int .i64 ((r : Int))), (51, .int .i64 ((i : Int))), (52, .int .i64 (rainM xs i (k + 1))), (53, .bool fb), (54, .int .i64 ((k : Int)))] → St w0 w [.b v0 code, .b v1 more, .d v5 xs, .n v48 ss] → K3 a w := fun a w fb hfb hF hS => by
      subst hfb
      exact hK3 _ _ (rg68 (fb := noneB xs 5 10 i (k + 1)) hF hS (by omega) fun a w hF hS => ⟨g - 1, by omega, k + 1, by omega, hF, hS⟩)
    cases hb : noneB xs 5 10 i k with
    | false =>
      rw [hb] at hF hne
      exact rg70a hF.to hS q4 (by omega) fun a w hF hS => fin a w false (by rw [hne]; rfl) hF hS
    | true =>
      rw [hb] at hF hne
      by_cases c5 : 5 ≤ (rd_T43 xs ((i + k : Nat) : Int)).f0
      · by_cases c6 : 10 ≤ (rd_T43 xs ((i + k : Nat) : Int)).f1
        · exact rg70d hF.to hS q4 (by omega) c5 c6 fun a w hF hS => fin a w true (by rw [hne, decide_eq_false (Int.not_lt.2 c5), decide_eq_false (Int.not_lt.2 c6)]; rfl) hF hS
        · exact rg70c hF.to hS q4 (by omega) c5 c6 fun a w hF hS => fin a w false (by rw [hne, decide_eq_true (Int.not_le.1 c6), Bool.or_true]; rfl) hF hS
      · exact rg70b hF.to hS q4 (by omega) c5 fun a w hF hS => fin a w false (by rw [hne, decide_eq_true (Int.not_le.1 c5), Bool.true_or]; rfl) hF hS
  · obtain rfl : k = dd := by omega
    exact rg67b hF hS cc fun a w hF hS => hK2 _ _ (wp_cond_false (hF.at rfl) (wp_exit (show Exit.inBlock 8 Q (.exit 8) a w from exit_here (hq _ _ hF.to hS))))
/-- The days gone through. -/
theorem loop6 {v0 v1 v5 v48 : Value} {code more ss : List Int} {xs : List S43} {b q c dd : Nat} {a_ s_ : Int} (hF : Fr 639 a [(0, v0), (1, v1), (5, v5), (35, .int .i64 ((c : Int))), (36, .int .i64 ((b : Int))), (37, .int .i64 ((q : Int))), (39, .int .i64 ((dd : Int))), (43, .int .i64 (a_)), (44, .int .i64 (s_)), (48, v48), (50, .int .i64 (0)), (51, .int .i64 (0))]) (hS : St w0 w [.b v0 code, .b v1 more, .d v5 xs, .n v48 ss]) (hl : xs.length ≤ 8) (hx : ∀ x ∈ xs, DayIn x) (K : Known xs b q dd a_ s_ ss)
    (hq : ∀ a w, Fr 639 a [(0, v0), (1, v1), (5, v5), (35, .int .i64 ((c : Int))), (36, .int .i64 ((b : Int))), (37, .int .i64 ((q : Int))), (39, .int .i64 ((dd : Int))), (43, .int .i64 (a_)), (44, .int .i64 (s_)), (48, v48)] → St w0 w [.b v0 code, .b v1 more, .d v5 xs, .n v48 ss] → Q .normal a w) : (blockOf Tryz.f3 6).wp Tryz.prog Q a w := by
  have hd := K.hd
  conv => arg 2; whnf
  refine wp_block (wp_loop_ghost (fun g a w => ∃ i r : Nat, i + g = xs.length ∧ r ≤ i ∧ (∀ j, j < r → dry xs (i - r + j) = true) ∧ Fr 639 a [(0, v0), (1, v1), (5, v5), (35, .int .i64 ((c : Int))), (36, .int .i64 ((b : Int))), (37, .int .i64 ((q : Int))), (39, .int .i64 ((dd : Int))), (43, .int .i64 (a_)), (44, .int .i64 (s_)), (48, v48), (50, .int .i64 ((r : Int))), (51, .int .i64 ((i : Int)))] ∧ St w0 w [.b v0 code, .b v1 more, .d v5 xs, .n v48 ss]) xs.length ⟨0, 0, by omega, by omega, fun j hj => by omega, hF.to, hS⟩ ?_)
  rintro g a w ⟨i, r, hi, hr, hdry, hF, hS⟩
  refine wp_seq_k fun K1 hK1 => wp_seq_k fun K2 hK2 => ?_
  by_cases cc : i < xs.length
  · refine rg54a hF hS cc fun a w hF hS => hK2 _ _ (wp_cond_true (hF.at rfl) (wp_skip (hK1 _ _ ?_)))
    refine wp_seq_k fun K3 hK3 => wp_block (wp_seq_k fun K4 hK4 => ?_)
    refine rg56 hF.to hS (by omega) fun a w hF hS => hK4 _ _ (wp_seq_k fun K5 hK5 => wp_seq_k fun K6 hK6 => ?_)
    have hh := HasNumber_is ss i K.hn
    rw [K.hs i] at hh
    have step : ∀ (r2 : Nat) a w, r2 ≤ i + 1 → (∀ j, j < r2 → dry xs (i + 1 - r2 + j) = true) → Fr 639 a [(0, v0), (1, v1), (5, v5), (35, .int .i64 ((c : Int))), (36, .int .i64 ((b : Int))), (37, .int .i64 ((q : Int))), (39, .int .i64 ((dd : Int))), (43, .int .i64 (a_)), (44, .int .i64 (s_)), (48, v48), (50, .int .i64 ((r2 : Int))), (51, .int .i64 ((i : Int)))] → St w0 w [.b v0 code, .b v1 more, .d v5 xs, .n v48 ss] → K5 a w := fun r2 a w h1 h2 hF hS => by
      have hq1 := K.hq (i + 1 - r2) r2 ⟨by omega, h2⟩
      have round : ∀ a w, Fr 639 a [(0, v0), (1, v1), (5, v5), (35, .int .i64 ((c : Int))), (36, .int .i64 ((b : Int))), (37, .int .i64 ((q : Int))), (39, .int .i64 ((dd : Int))), (43, .int .i64 (a_)), (44, .int .i64 (s_)), (48, v48), (50, .int .i64 ((r2 : Int))), (51, .int .i64 ((i : Int)))] → St w0 w [.b v0 code, .b v1 more, .d v5 xs, .n v48 ss] → K3 a w := fun a w hF hS => hK3 _ _ (rg55 hF hS (by omega) fun a w hF hS => ⟨g - 1, by omega, i + 1, r2, by omega, by omega, h2, hF, hS⟩)
      refine hK5 _ _ (wp_seq_k fun K7 hK7 => wp_seq_k fun K8 hK8 => ?_)
      have next : ∀ a w, Fr 639 a [(0, v0), (1, v1), (5, v5), (35, .int .i64 ((c : Int))), (36, .int .i64 ((b : Int))), (37, .int .i64 ((q : Int))), (39, .int .i64 ((dd : Int))), (43, .int .i64 (a_)), (44, .int .i64 (s_)), (48, v48), (50, .int .i64 ((r2 : Int))), (51, .int .i64 ((i : Int))), (501, .bool false)] → St w0 w [.b v0 code, .b v1 more, .d v5 xs, .n v48 ss] → K8 a w := fun a w hF hS => by
        refine hK8 _ _ (wp_cond_false (hF.at rfl) (wp_skip (hK7 _ _ ?_)))
        refine wp_seq_k fun K9 hK9 => wp_seq_k fun K10 hK10 => ?_
        by_cases c1 : i + dd ≤ xs.length
        · rw [decide_eq_true c1, Bool.true_and] at hh
          obtain ⟨u1, u2, u3⟩ := K.hw i c1
          refine rg61b hF.to hS (by omega) (by omega) c1 fun a w hF hS => hK10 _ _ (wp_cond_false (hF.at rfl) (wp_skip (hK9 _ _ ?_)))
          refine wp_seq_k fun K11 hK11 => rg64 hF.to hS fun a w hF hS => hK11 _ _ ?_
          refine wp_seq_k fun K12 hK12 => rg65 hF.to hS fun a w hF hS => hK12 _ _ ?_
          refine wp_seq_k fun K13 hK13 => wp_seq_k fun K14 hK14 => rg66 hF.to hS fun a w hF hS => hK14 _ _ ?_
          refine loop8 hF.to hS hl hd.2 hx c1 fun a w hF hS => hK13 _ _ (wp_seq_k fun K15 hK15 => ?_)
          have fin : ∀ a w, Fr 639 a [(0, v0), (1, v1), (5, v5), (35, .int .i64 ((c : Int))), (36, .int .i64 ((b : Int))), (37, .int .i64 ((q : Int))), (39, .int .i64 ((dd : Int))), (43, .int .i64 (a_)), (44, .int .i64 (s_)), (48, v48), (50, .int .i64 ((r2 : Int))), (51, .int .i64 ((i : Int))), (576, .bool false)] → St w0 w [.b v0 code, .b v1 more, .d v5 xs, .n v48 ss] → K15 a w := fun a w hF hS => hK15 _ _ (wp_cond_false (hF.at rfl) (wp_skip (round _ _ hF.to hS)))
          by_cases c3 : rainM xs i dd = s_
          · by_cases c4 : (i : Int) = a_
            · exact rg71a hF.to hS hh c3 (u2 c3) c4 fun a w hF hS => fin a w hF hS
            · exact rg71b hF.to hS hh c3 (u2 c3) c4 fun a w hF hS => fin a w hF hS
          · exact rg71c hF.to hS hh c3 u1 (fun e => c3 (u3 e)) fun a w hF hS => fin a w hF hS
        · rw [decide_eq_false c1, Bool.false_and] at hh
          refine rg61a hF.to hS (by omega) (by omega) c1 fun a w hF hS => hK10 _ _ (wp_cond_true (hF.at rfl) ?_)
          refine wp_seq_k fun K11 hK11 => wp_seq_k fun K12 hK12 => ?_
          exact rg62 hF.to hS hh fun a w hF hS => hK12 _ _ (wp_cond_false (hF.at rfl) (wp_skip (hK11 _ _ (wp_exit (then_exit (exit_here (round _ _ hF.to hS)))))))
      by_cases e1 : r2 = q
      · by_cases e2 : 0 < r2
        · refine rg59c hF hS e1 e2 h1 (by omega) (fun hlt => ?_) next
          subst e1
          exact K.hb (i + 1 - r2) (by omega) (by omega) ⟨by omega, h2⟩
        · exact rg59b hF hS e1 e2 next
      · exact rg59a hF hS hq1 e1 next
    by_cases c2 : 0 < (rd_T43 xs (i : Int)).f0
    · exact rg57a hF.to hS cc c2 fun a w hF hS => hK6 _ _ (wp_cond_true (hF.at rfl) (rg58 (r := r + 1) hF.to hS fun a w hF hS => step 0 a w (by omega) (fun j hj => by omega) hF.to hS))
    · refine rg57b hF.to hS cc c2 fun a w hF hS => hK6 _ _ (wp_cond_false (hF.at rfl) (wp_skip (step (r + 1) a w (by omega) (fun j hj => ?_) hF.to hS)))
      have hm := (hx _ (rd_mem xs i cc)).1
      by_cases e : j = r
      · subst e
        rw [show i + 1 - (j + 1) + j = i by omega]
        unfold dry
        rw [beq_iff_eq]
        omega
      · have := hdry j (by omega)
        rwa [show i + 1 - (r + 1) + j = i - r + j by omega]
  · exact rg54b hF hS cc fun a w hF hS => hK2 _ _ (wp_cond_false (hF.at rfl) (wp_exit (show Exit.inBlock 6 Q (.exit 6) a w from exit_here (hq _ _ hF.to hS))))
end
end Go.Proofs.YtibpndhcijmhpaaGreatDoor.B
