/- The law's body, region by region: the days gone through. Printed by a program of this session. -/
import Derived.Test.YtibpndhcijmhpaaGreatDoorGc
namespace Go.Proofs.YtibpndhcijmhpaaGreatDoor.B
open Go.RowKit Go.Proofs.YtibpndhcijmhpaaGreatDoorW.PrintLast Go.Proofs.YtibpndhcijmhpaaGreatDoorW.PrintWords Go.Proofs.YtibpndhcijmhpaaGreatDoor.QG
set_option linter.unusedSimpArgs false
set_option linter.unusedVariables false
set_option maxRecDepth 100000
theorem rg52 {v0 v1 v5 v48 : Value} {code more ss : List Int} {xs : List S43} {b q c dd : Nat} {a_ s_ : Int} {Q : Exit → Act → World → Prop} {w0 w : World} {a : Act} (hF : Fr 639 a [(0, v0), (1, v1), (5, v5), (35, .int .i64 ((c : Int))), (36, .int .i64 ((b : Int))), (37, .int .i64 ((q : Int))), (39, .int .i64 ((dd : Int))), (43, .int .i64 (a_)), (44, .int .i64 (s_)), (48, v48)]) (hS : St w0 w [.b v0 code, .b v1 more, .d v5 xs, .n v48 ss])
    (hq : ∀ a' w', Fr 639 a' [(0, v0), (1, v1), (5, v5), (35, .int .i64 ((c : Int))), (36, .int .i64 ((b : Int))), (37, .int .i64 ((q : Int))), (39, .int .i64 ((dd : Int))), (43, .int .i64 (a_)), (44, .int .i64 (s_)), (48, v48), (50, .int .i64 (0))] → St w0 w' [.b v0 code, .b v1 more, .d v5 xs, .n v48 ss] → Q .normal a' w') : (Code.region 52 (opsOf Tryz.f3 52) false).wp Tryz.prog Q a w := by
  conv => arg 2; arg 2; whnf
  refine wp_region_list ?_
  refine fr_pure (want0 rfl) rfl rfl hF (v_assign hF rfl rfl) fun a hF => ?_
  exact wpList_nil (hq a w (hF.sub ⟨rfl, rfl, rfl, rfl, rfl, rfl, rfl, rfl, rfl, rfl, rfl, trivial⟩) (hS.pick [0, 1, 2, 3] rfl))
theorem rg53 {v0 v1 v5 v48 : Value} {code more ss : List Int} {xs : List S43} {b q c dd : Nat} {a_ s_ : Int} {Q : Exit → Act → World → Prop} {w0 w : World} {a : Act} (hF : Fr 639 a [(0, v0), (1, v1), (5, v5), (35, .int .i64 ((c : Int))), (36, .int .i64 ((b : Int))), (37, .int .i64 ((q : Int))), (39, .int .i64 ((dd : Int))), (43, .int .i64 (a_)), (44, .int .i64 (s_)), (48, v48), (50, .int .i64 (0))]) (hS : St w0 w [.b v0 code, .b v1 more, .d v5 xs, .n v48 ss])
    (hq : ∀ a' w', Fr 639 a' [(0, v0), (1, v1), (5, v5), (35, .int .i64 ((c : Int))), (36, .int .i64 ((b : Int))), (37, .int .i64 ((q : Int))), (39, .int .i64 ((dd : Int))), (43, .int .i64 (a_)), (44, .int .i64 (s_)), (48, v48), (50, .int .i64 (0)), (51, .int .i64 (0))] → St w0 w' [.b v0 code, .b v1 more, .d v5 xs, .n v48 ss] → Q .normal a' w') : (Code.region 53 (opsOf Tryz.f3 53) false).wp Tryz.prog Q a w := by
  conv => arg 2; arg 2; whnf
  refine wp_region_list ?_
  refine fr_pure (want0 rfl) rfl rfl hF (v_assign hF rfl rfl) fun a hF => ?_
  exact wpList_nil (hq a w (hF.sub ⟨rfl, rfl, rfl, rfl, rfl, rfl, rfl, rfl, rfl, rfl, rfl, rfl, trivial⟩) (hS.pick [0, 1, 2, 3] rfl))
theorem rg54a {v0 v1 v5 v48 : Value} {code more ss : List Int} {xs : List S43} {b q c dd : Nat} {a_ s_ : Int} {i r : Nat} {Q : Exit → Act → World → Prop} {w0 w : World} {a : Act} (hF : Fr 639 a [(0, v0), (1, v1), (5, v5), (35, .int .i64 ((c : Int))), (36, .int .i64 ((b : Int))), (37, .int .i64 ((q : Int))), (39, .int .i64 ((dd : Int))), (43, .int .i64 (a_)), (44, .int .i64 (s_)), (48, v48), (50, .int .i64 ((r : Int))), (51, .int .i64 ((i : Int)))]) (hS : St w0 w [.b v0 code, .b v1 more, .d v5 xs, .n v48 ss]) (h : i < xs.length)
    (hq : ∀ a' w', Fr 639 a' [(0, v0), (1, v1), (5, v5), (35, .int .i64 ((c : Int))), (36, .int .i64 ((b : Int))), (37, .int .i64 ((q : Int))), (39, .int .i64 ((dd : Int))), (43, .int .i64 (a_)), (44, .int .i64 (s_)), (48, v48), (50, .int .i64 ((r : Int))), (51, .int .i64 ((i : Int))), (471, .bool true)] → St w0 w' [.b v0 code, .b v1 more, .d v5 xs, .n v48 ss] → Q .normal a' w') : (Code.region 54 (opsOf Tryz.f3 54) false).wp Tryz.prog Q a w := by
  conv => arg 2; arg 2; whnf
  refine wp_region_list ?_
  refine fr_pure (want0 rfl) rfl rfl hF (v_move hF rfl rfl) fun a hF => ?_
  refine fr_pure (want0 rfl) rfl rfl hF (v_move hF rfl rfl) fun a hF => ?_
  refine fr_pure (want0 rfl) rfl rfl hF (v_len24 hF rfl rfl (hS.get 2 rfl)) fun a hF => ?_
  refine fr_pure (want0 rfl) rfl rfl hF (v_lss (b := true) hF rfl rfl rfl (decide_eq_true (by omega))) fun a hF => ?_
  exact wpList_nil (hq a w (hF.sub ⟨rfl, rfl, rfl, rfl, rfl, rfl, rfl, rfl, rfl, rfl, rfl, rfl, rfl, trivial⟩) (hS.pick [0, 1, 2, 3] rfl))
theorem rg54b {v0 v1 v5 v48 : Value} {code more ss : List Int} {xs : List S43} {b q c dd : Nat} {a_ s_ : Int} {i r : Nat} {Q : Exit → Act → World → Prop} {w0 w : World} {a : Act} (hF : Fr 639 a [(0, v0), (1, v1), (5, v5), (35, .int .i64 ((c : Int))), (36, .int .i64 ((b : Int))), (37, .int .i64 ((q : Int))), (39, .int .i64 ((dd : Int))), (43, .int .i64 (a_)), (44, .int .i64 (s_)), (48, v48), (50, .int .i64 ((r : Int))), (51, .int .i64 ((i : Int)))]) (hS : St w0 w [.b v0 code, .b v1 more, .d v5 xs, .n v48 ss]) (h : ¬ i < xs.length)
    (hq : ∀ a' w', Fr 639 a' [(0, v0), (1, v1), (5, v5), (35, .int .i64 ((c : Int))), (36, .int .i64 ((b : Int))), (37, .int .i64 ((q : Int))), (39, .int .i64 ((dd : Int))), (43, .int .i64 (a_)), (44, .int .i64 (s_)), (48, v48), (50, .int .i64 ((r : Int))), (51, .int .i64 ((i : Int))), (471, .bool false)] → St w0 w' [.b v0 code, .b v1 more, .d v5 xs, .n v48 ss] → Q .normal a' w') : (Code.region 54 (opsOf Tryz.f3 54) false).wp Tryz.prog Q a w := by
  conv => arg 2; arg 2; whnf
  refine wp_region_list ?_
  refine fr_pure (want0 rfl) rfl rfl hF (v_move hF rfl rfl) fun a hF => ?_
  refine fr_pure (want0 rfl) rfl rfl hF (v_move hF rfl rfl) fun a hF => ?_
  refine fr_pure (want0 rfl) rfl rfl hF (v_len24 hF rfl rfl (hS.get 2 rfl)) fun a hF => ?_
  refine fr_pure (want0 rfl) rfl rfl hF (v_lss (b := false) hF rfl rfl rfl (decide_eq_false (by omega))) fun a hF => ?_
  exact wpList_nil (hq a w (hF.sub ⟨rfl, rfl, rfl, rfl, rfl, rfl, rfl, rfl, rfl, rfl, rfl, rfl, rfl, trivial⟩) (hS.pick [0, 1, 2, 3] rfl))
theorem rg56 {v0 v1 v5 v48 : Value} {code more ss : List Int} {xs : List S43} {b q c dd : Nat} {a_ s_ : Int} {i r : Nat} {Q : Exit → Act → World → Prop} {w0 w : World} {a : Act} (hF : Fr 639 a [(0, v0), (1, v1), (5, v5), (35, .int .i64 ((c : Int))), (36, .int .i64 ((b : Int))), (37, .int .i64 ((q : Int))), (39, .int .i64 ((dd : Int))), (43, .int .i64 (a_)), (44, .int .i64 (s_)), (48, v48), (50, .int .i64 ((r : Int))), (51, .int .i64 ((i : Int)))]) (hS : St w0 w [.b v0 code, .b v1 more, .d v5 xs, .n v48 ss]) (h : r ≤ 1000)
    (hq : ∀ a' w', Fr 639 a' [(0, v0), (1, v1), (5, v5), (35, .int .i64 ((c : Int))), (36, .int .i64 ((b : Int))), (37, .int .i64 ((q : Int))), (39, .int .i64 ((dd : Int))), (43, .int .i64 (a_)), (44, .int .i64 (s_)), (48, v48), (50, .int .i64 (((r + 1 : Nat) : Int))), (51, .int .i64 ((i : Int)))] → St w0 w' [.b v0 code, .b v1 more, .d v5 xs, .n v48 ss] → Q .normal a' w') : (Code.region 56 (opsOf Tryz.f3 56) false).wp Tryz.prog Q a w := by
  conv => arg 2; arg 2; whnf
  refine wp_region_list ?_
  refine fr_pure (want0 rfl) rfl rfl hF (v_move hF rfl rfl) fun a hF => ?_
  refine fr_pure (want0 rfl) rfl rfl hF (v_add (r := ((r + 1 : Nat) : Int)) hF rfl rfl rfl (up64 (by omega))) fun a hF => ?_
  refine fr_pure (want0 rfl) rfl rfl hF (v_assign hF rfl rfl) fun a hF => ?_
  exact wpList_nil (hq a w (hF.sub ⟨rfl, rfl, rfl, rfl, rfl, rfl, rfl, rfl, rfl, rfl, rfl, rfl, trivial⟩) (hS.pick [0, 1, 2, 3] rfl))
theorem rg57a {v0 v1 v5 v48 : Value} {code more ss : List Int} {xs : List S43} {b q c dd : Nat} {a_ s_ : Int} {i r : Nat} {Q : Exit → Act → World → Prop} {w0 w : World} {a : Act} (hF : Fr 639 a [(0, v0), (1, v1), (5, v5), (35, .int .i64 ((c : Int))), (36, .int .i64 ((b : Int))), (37, .int .i64 ((q : Int))), (39, .int .i64 ((dd : Int))), (43, .int .i64 (a_)), (44, .int .i64 (s_)), (48, v48), (50, .int .i64 ((r : Int))), (51, .int .i64 ((i : Int)))]) (hS : St w0 w [.b v0 code, .b v1 more, .d v5 xs, .n v48 ss]) (h : i < xs.length) (h0 : 0 < (rd_T43 xs (i : Int)).f0)
    (hq : ∀ a' w', Fr 639 a' [(0, v0), (1, v1), (5, v5), (35, .int .i64 ((c : Int))), (36, .int .i64 ((b : Int))), (37, .int .i64 ((q : Int))), (39, .int .i64 ((dd : Int))), (43, .int .i64 (a_)), (44, .int .i64 (s_)), (48, v48), (50, .int .i64 ((r : Int))), (51, .int .i64 ((i : Int))), (481, .bool true)] → St w0 w' [.b v0 code, .b v1 more, .d v5 xs, .n v48 ss] → Q .normal a' w') : (Code.region 57 (opsOf Tryz.f3 57) false).wp Tryz.prog Q a w := by
  conv => arg 2; arg 2; whnf
  refine wp_region_list ?_
  refine fr_pure (want0 rfl) rfl rfl hF (v_move hF rfl rfl) fun a hF => ?_
  refine fr_pure (want0 rfl) rfl rfl hF (v_move hF rfl rfl) fun a hF => ?_
  refine fr_pure (want0 rfl) rfl rfl hF (v_index24 hF rfl rfl rfl (hS.get 2 rfl) (by omega) (by omega)) fun a hF => ?_
  refine fr_pure (want0 rfl) rfl rfl hF (v_field0 hF rfl rfl (hS.get 2 rfl) (by omega)) fun a hF => ?_
  refine fr_pure (want0 rfl) rfl rfl hF (v_load41a (i := (i : Int)) hF rfl rfl (hS.get 2 rfl) (by omega) (by omega)) fun a hF => ?_
  refine fr_pure (want0 rfl) rfl rfl hF (v_gtr (b := true) hF rfl rfl rfl (decide_eq_true (by omega))) fun a hF => ?_
  exact wpList_nil (hq a w (hF.sub ⟨rfl, rfl, rfl, rfl, rfl, rfl, rfl, rfl, rfl, rfl, rfl, rfl, rfl, trivial⟩) (hS.pick [0, 1, 2, 3] rfl))
theorem rg57b {v0 v1 v5 v48 : Value} {code more ss : List Int} {xs : List S43} {b q c dd : Nat} {a_ s_ : Int} {i r : Nat} {Q : Exit → Act → World → Prop} {w0 w : World} {a : Act} (hF : Fr 639 a [(0, v0), (1, v1), (5, v5), (35, .int .i64 ((c : Int))), (36, .int .i64 ((b : Int))), (37, .int .i64 ((q : Int))), (39, .int .i64 ((dd : Int))), (43, .int .i64 (a_)), (44, .int .i64 (s_)), (48, v48), (50, .int .i64 ((r : Int))), (51, .int .i64 ((i : Int)))]) (hS : St w0 w [.b v0 code, .b v1 more, .d v5 xs, .n v48 ss]) (h : i < xs.length) (h0 : ¬ 0 < (rd_T43 xs (i : Int)).f0)
    (hq : ∀ a' w', Fr 639 a' [(0, v0), (1, v1), (5, v5), (35, .int .i64 ((c : Int))), (36, .int .i64 ((b : Int))), (37, .int .i64 ((q : Int))), (39, .int .i64 ((dd : Int))), (43, .int .i64 (a_)), (44, .int .i64 (s_)), (48, v48), (50, .int .i64 ((r : Int))), (51, .int .i64 ((i : Int))), (481, .bool false)] → St w0 w' [.b v0 code, .b v1 more, .d v5 xs, .n v48 ss] → Q .normal a' w') : (Code.region 57 (opsOf Tryz.f3 57) false).wp Tryz.prog Q a w := by
  conv => arg 2; arg 2; whnf
  refine wp_region_list ?_
  refine fr_pure (want0 rfl) rfl rfl hF (v_move hF rfl rfl) fun a hF => ?_
  refine fr_pure (want0 rfl) rfl rfl hF (v_move hF rfl rfl) fun a hF => ?_
  refine fr_pure (want0 rfl) rfl rfl hF (v_index24 hF rfl rfl rfl (hS.get 2 rfl) (by omega) (by omega)) fun a hF => ?_
  refine fr_pure (want0 rfl) rfl rfl hF (v_field0 hF rfl rfl (hS.get 2 rfl) (by omega)) fun a hF => ?_
  refine fr_pure (want0 rfl) rfl rfl hF (v_load41a (i := (i : Int)) hF rfl rfl (hS.get 2 rfl) (by omega) (by omega)) fun a hF => ?_
  refine fr_pure (want0 rfl) rfl rfl hF (v_gtr (b := false) hF rfl rfl rfl (decide_eq_false (by omega))) fun a hF => ?_
  exact wpList_nil (hq a w (hF.sub ⟨rfl, rfl, rfl, rfl, rfl, rfl, rfl, rfl, rfl, rfl, rfl, rfl, rfl, trivial⟩) (hS.pick [0, 1, 2, 3] rfl))
theorem rg58 {v0 v1 v5 v48 : Value} {code more ss : List Int} {xs : List S43} {b q c dd : Nat} {a_ s_ : Int} {i r : Nat} {Q : Exit → Act → World → Prop} {w0 w : World} {a : Act} (hF : Fr 639 a [(0, v0), (1, v1), (5, v5), (35, .int .i64 ((c : Int))), (36, .int .i64 ((b : Int))), (37, .int .i64 ((q : Int))), (39, .int .i64 ((dd : Int))), (43, .int .i64 (a_)), (44, .int .i64 (s_)), (48, v48), (50, .int .i64 ((r : Int))), (51, .int .i64 ((i : Int)))]) (hS : St w0 w [.b v0 code, .b v1 more, .d v5 xs, .n v48 ss])
    (hq : ∀ a' w', Fr 639 a' [(0, v0), (1, v1), (5, v5), (35, .int .i64 ((c : Int))), (36, .int .i64 ((b : Int))), (37, .int .i64 ((q : Int))), (39, .int .i64 ((dd : Int))), (43, .int .i64 (a_)), (44, .int .i64 (s_)), (48, v48), (50, .int .i64 (0)), (51, .int .i64 ((i : Int)))] → St w0 w' [.b v0 code, .b v1 more, .d v5 xs, .n v48 ss] → Q .normal a' w') : (Code.region 58 (opsOf Tryz.f3 58) false).wp Tryz.prog Q a w := by
  conv => arg 2; arg 2; whnf
  refine wp_region_list ?_
  refine fr_pure (want0 rfl) rfl rfl hF (v_assign hF rfl rfl) fun a hF => ?_
  exact wpList_nil (hq a w (hF.sub ⟨rfl, rfl, rfl, rfl, rfl, rfl, rfl, rfl, rfl, rfl, rfl, rfl, trivial⟩) (hS.pick [0, 1, 2, 3] rfl))
theorem rg59a {v0 v1 v5 v48 : Value} {code more ss : List Int} {xs : List S43} {b q c dd : Nat} {a_ s_ : Int} {i r : Nat} {Q : Exit → Act → World → Prop} {w0 w : World} {a : Act} (hF : Fr 639 a [(0, v0), (1, v1), (5, v5), (35, .int .i64 ((c : Int))), (36, .int .i64 ((b : Int))), (37, .int .i64 ((q : Int))), (39, .int .i64 ((dd : Int))), (43, .int .i64 (a_)), (44, .int .i64 (s_)), (48, v48), (50, .int .i64 ((r : Int))), (51, .int .i64 ((i : Int)))]) (hS : St w0 w [.b v0 code, .b v1 more, .d v5 xs, .n v48 ss]) (h : r ≤ q) (h2 : r ≠ q)
    (hq : ∀ a' w', Fr 639 a' [(0, v0), (1, v1), (5, v5), (35, .int .i64 ((c : Int))), (36, .int .i64 ((b : Int))), (37, .int .i64 ((q : Int))), (39, .int .i64 ((dd : Int))), (43, .int .i64 (a_)), (44, .int .i64 (s_)), (48, v48), (50, .int .i64 ((r : Int))), (51, .int .i64 ((i : Int))), (501, .bool false)] → St w0 w' [.b v0 code, .b v1 more, .d v5 xs, .n v48 ss] → Q .normal a' w') : (Code.region 59 (opsOf Tryz.f3 59) false).wp Tryz.prog Q a w := by
  conv => arg 2; arg 2; whnf
  refine wp_region_list ?_
  refine fr_pure (want0 rfl) rfl rfl hF (v_move hF rfl rfl) fun a hF => ?_
  refine fr_pure (want0 rfl) rfl rfl hF (v_move hF rfl rfl) fun a hF => ?_
  refine fr_pure (want0 rfl) rfl rfl hF (v_gtr (b := false) hF rfl rfl rfl (decide_eq_false (by omega))) fun a hF => ?_
  refine fr_pure (want0 rfl) rfl rfl hF (v_move hF rfl rfl) fun a hF => ?_
  refine fr_pure (hF.want rfl rfl rfl rfl) rfl rfl hF (v_move hF rfl rfl) fun a hF => ?_
  refine fr_pure (hF.want rfl rfl rfl rfl) rfl rfl hF (v_move hF rfl rfl) fun a hF => ?_
  refine fr_pure (hF.want rfl rfl rfl rfl) rfl rfl hF (v_eql (b := false) hF rfl rfl rfl (decide_eq_false (by omega))) fun a hF => ?_
  refine fr_pure (hF.want rfl rfl rfl rfl) rfl rfl hF (v_move hF rfl rfl) fun a hF => ?_
  refine fr_skip (hF.skip rfl rfl rfl rfl rfl) rfl rfl hF fun a hF => ?_
  refine fr_skip (hF.skip rfl rfl rfl rfl rfl) rfl rfl hF fun a hF => ?_
  refine fr_pure (hF.want rfl rfl rfl rfl) rfl rfl hF (v_pick hF rfl rfl rfl) fun a hF => ?_
  refine fr_pure (hF.want rfl rfl rfl rfl) rfl rfl hF (v_move hF rfl rfl) fun a hF => ?_
  refine fr_skip (hF.skip rfl rfl rfl rfl rfl) rfl rfl hF fun a hF => ?_
  refine fr_skip (hF.skip rfl rfl rfl rfl rfl) rfl rfl hF fun a hF => ?_
  refine fr_skip (hF.skip rfl rfl rfl rfl rfl) rfl rfl hF fun a hF => ?_
  refine fr_skip (hF.skip rfl rfl rfl rfl rfl) rfl rfl hF fun a hF => ?_
  refine fr_skip (hF.skip rfl rfl rfl rfl rfl) rfl rfl hF fun a hF => ?_
  refine fr_skip (hF.skip rfl rfl rfl rfl rfl) rfl rfl hF fun a hF => ?_
  refine fr_pure (hF.want rfl rfl rfl rfl) rfl rfl hF (v_pick hF rfl rfl rfl) fun a hF => ?_
  refine fr_pure (want0 rfl) rfl rfl hF (v_pick hF rfl rfl rfl) fun a hF => ?_
  exact wpList_nil (hq a w (hF.sub ⟨rfl, rfl, rfl, rfl, rfl, rfl, rfl, rfl, rfl, rfl, rfl, rfl, rfl, trivial⟩) (hS.pick [0, 1, 2, 3] rfl))
theorem rg59b {v0 v1 v5 v48 : Value} {code more ss : List Int} {xs : List S43} {b q c dd : Nat} {a_ s_ : Int} {i r : Nat} {Q : Exit → Act → World → Prop} {w0 w : World} {a : Act} (hF : Fr 639 a [(0, v0), (1, v1), (5, v5), (35, .int .i64 ((c : Int))), (36, .int .i64 ((b : Int))), (37, .int .i64 ((q : Int))), (39, .int .i64 ((dd : Int))), (43, .int .i64 (a_)), (44, .int .i64 (s_)), (48, v48), (50, .int .i64 ((r : Int))), (51, .int .i64 ((i : Int)))]) (hS : St w0 w [.b v0 code, .b v1 more, .d v5 xs, .n v48 ss]) (h : r = q) (h2 : ¬ 0 < r)
    (hq : ∀ a' w', Fr 639 a' [(0, v0), (1, v1), (5, v5), (35, .int .i64 ((c : Int))), (36, .int .i64 ((b : Int))), (37, .int .i64 ((q : Int))), (39, .int .i64 ((dd : Int))), (43, .int .i64 (a_)), (44, .int .i64 (s_)), (48, v48), (50, .int .i64 ((r : Int))), (51, .int .i64 ((i : Int))), (501, .bool false)] → St w0 w' [.b v0 code, .b v1 more, .d v5 xs, .n v48 ss] → Q .normal a' w') : (Code.region 59 (opsOf Tryz.f3 59) false).wp Tryz.prog Q a w := by
  conv => arg 2; arg 2; whnf
  refine wp_region_list ?_
  refine fr_pure (want0 rfl) rfl rfl hF (v_move hF rfl rfl) fun a hF => ?_
  refine fr_pure (want0 rfl) rfl rfl hF (v_move hF rfl rfl) fun a hF => ?_
  refine fr_pure (want0 rfl) rfl rfl hF (v_gtr (b := false) hF rfl rfl rfl (decide_eq_false (by omega))) fun a hF => ?_
  refine fr_pure (want0 rfl) rfl rfl hF (v_move hF rfl rfl) fun a hF => ?_
  refine fr_pure (hF.want rfl rfl rfl rfl) rfl rfl hF (v_move hF rfl rfl) fun a hF => ?_
  refine fr_pure (hF.want rfl rfl rfl rfl) rfl rfl hF (v_move hF rfl rfl) fun a hF => ?_
  refine fr_pure (hF.want rfl rfl rfl rfl) rfl rfl hF (v_eql (b := true) hF rfl rfl rfl (decide_eq_true (by omega))) fun a hF => ?_
  refine fr_pure (hF.want rfl rfl rfl rfl) rfl rfl hF (v_move hF rfl rfl) fun a hF => ?_
  refine fr_pure (hF.want rfl rfl rfl rfl) rfl rfl hF (v_move hF rfl rfl) fun a hF => ?_
  refine fr_pure (hF.want rfl rfl rfl rfl) rfl rfl hF (v_gtr (b := false) hF rfl rfl rfl (decide_eq_false (by omega))) fun a hF => ?_
  refine fr_pure (hF.want rfl rfl rfl rfl) rfl rfl hF (v_pick hF rfl rfl rfl) fun a hF => ?_
  refine fr_pure (hF.want rfl rfl rfl rfl) rfl rfl hF (v_move hF rfl rfl) fun a hF => ?_
  refine fr_skip (hF.skip rfl rfl rfl rfl rfl) rfl rfl hF fun a hF => ?_
  refine fr_skip (hF.skip rfl rfl rfl rfl rfl) rfl rfl hF fun a hF => ?_
  refine fr_skip (hF.skip rfl rfl rfl rfl rfl) rfl rfl hF fun a hF => ?_
  refine fr_skip (hF.skip rfl rfl rfl rfl rfl) rfl rfl hF fun a hF => ?_
  refine fr_skip (hF.skip rfl rfl rfl rfl rfl) rfl rfl hF fun a hF => ?_
  refine fr_skip (hF.skip rfl rfl rfl rfl rfl) rfl rfl hF fun a hF => ?_
  refine fr_pure (hF.want rfl rfl rfl rfl) rfl rfl hF (v_pick hF rfl rfl rfl) fun a hF => ?_
  refine fr_pure (want0 rfl) rfl rfl hF (v_pick hF rfl rfl rfl) fun a hF => ?_
  exact wpList_nil (hq a w (hF.sub ⟨rfl, rfl, rfl, rfl, rfl, rfl, rfl, rfl, rfl, rfl, rfl, rfl, rfl, trivial⟩) (hS.pick [0, 1, 2, 3] rfl))
theorem rg59c {v0 v1 v5 v48 : Value} {code more ss : List Int} {xs : List S43} {b q c dd : Nat} {a_ s_ : Int} {i r : Nat} {Q : Exit → Act → World → Prop} {w0 w : World} {a : Act} (hF : Fr 639 a [(0, v0), (1, v1), (5, v5), (35, .int .i64 ((c : Int))), (36, .int .i64 ((b : Int))), (37, .int .i64 ((q : Int))), (39, .int .i64 ((dd : Int))), (43, .int .i64 (a_)), (44, .int .i64 (s_)), (48, v48), (50, .int .i64 ((r : Int))), (51, .int .i64 ((i : Int)))]) (hS : St w0 w [.b v0 code, .b v1 more, .d v5 xs, .n v48 ss]) (h : r = q) (h2 : 0 < r) (h3 : r ≤ i + 1) (h4 : i ≤ 100) (h5 : ¬ (i : Int) - r + 1 < b)
    (hq : ∀ a' w', Fr 639 a' [(0, v0), (1, v1), (5, v5), (35, .int .i64 ((c : Int))), (36, .int .i64 ((b : Int))), (37, .int .i64 ((q : Int))), (39, .int .i64 ((dd : Int))), (43, .int .i64 (a_)), (44, .int .i64 (s_)), (48, v48), (50, .int .i64 ((r : Int))), (51, .int .i64 ((i : Int))), (501, .bool false)] → St w0 w' [.b v0 code, .b v1 more, .d v5 xs, .n v48 ss] → Q .normal a' w') : (Code.region 59 (opsOf Tryz.f3 59) false).wp Tryz.prog Q a w := by
  conv => arg 2; arg 2; whnf
  refine wp_region_list ?_
  refine fr_pure (want0 rfl) rfl rfl hF (v_move hF rfl rfl) fun a hF => ?_
  refine fr_pure (want0 rfl) rfl rfl hF (v_move hF rfl rfl) fun a hF => ?_
  refine fr_pure (want0 rfl) rfl rfl hF (v_gtr (b := false) hF rfl rfl rfl (decide_eq_false (by omega))) fun a hF => ?_
  refine fr_pure (want0 rfl) rfl rfl hF (v_move hF rfl rfl) fun a hF => ?_
  refine fr_pure (hF.want rfl rfl rfl rfl) rfl rfl hF (v_move hF rfl rfl) fun a hF => ?_
  refine fr_pure (hF.want rfl rfl rfl rfl) rfl rfl hF (v_move hF rfl rfl) fun a hF => ?_
  refine fr_pure (hF.want rfl rfl rfl rfl) rfl rfl hF (v_eql (b := true) hF rfl rfl rfl (decide_eq_true (by omega))) fun a hF => ?_
  refine fr_pure (hF.want rfl rfl rfl rfl) rfl rfl hF (v_move hF rfl rfl) fun a hF => ?_
  refine fr_pure (hF.want rfl rfl rfl rfl) rfl rfl hF (v_move hF rfl rfl) fun a hF => ?_
  refine fr_pure (hF.want rfl rfl rfl rfl) rfl rfl hF (v_gtr (b := true) hF rfl rfl rfl (decide_eq_true (by omega))) fun a hF => ?_
  refine fr_pure (hF.want rfl rfl rfl rfl) rfl rfl hF (v_pick hF rfl rfl rfl) fun a hF => ?_
  refine fr_pure (hF.want rfl rfl rfl rfl) rfl rfl hF (v_move hF rfl rfl) fun a hF => ?_
  refine fr_pure (hF.want rfl rfl rfl rfl) rfl rfl hF (v_move hF rfl rfl) fun a hF => ?_
  refine fr_pure (hF.want rfl rfl rfl rfl) rfl rfl hF (v_move hF rfl rfl) fun a hF => ?_
  refine fr_pure (hF.want rfl rfl rfl rfl) rfl rfl hF (v_sub (r := (i : Int) - (r : Int)) hF rfl rfl rfl (wrap64_in (by omega) (by omega))) fun a hF => ?_
  refine fr_pure (hF.want rfl rfl rfl rfl) rfl rfl hF (v_add (r := (i : Int) - (r : Int) + 1) hF rfl rfl rfl (wrap64_in (by omega) (by omega))) fun a hF => ?_
  refine fr_pure (hF.want rfl rfl rfl rfl) rfl rfl hF (v_move hF rfl rfl) fun a hF => ?_
  refine fr_pure (hF.want rfl rfl rfl rfl) rfl rfl hF (v_lss (b := false) hF rfl rfl rfl (decide_eq_false h5)) fun a hF => ?_
  refine fr_pure (hF.want rfl rfl rfl rfl) rfl rfl hF (v_pick hF rfl rfl rfl) fun a hF => ?_
  refine fr_pure (want0 rfl) rfl rfl hF (v_pick hF rfl rfl rfl) fun a hF => ?_
  exact wpList_nil (hq a w (hF.sub ⟨rfl, rfl, rfl, rfl, rfl, rfl, rfl, rfl, rfl, rfl, rfl, rfl, rfl, trivial⟩) (hS.pick [0, 1, 2, 3] rfl))
theorem rg61a {v0 v1 v5 v48 : Value} {code more ss : List Int} {xs : List S43} {b q c dd : Nat} {a_ s_ : Int} {i r : Nat} {Q : Exit → Act → World → Prop} {w0 w : World} {a : Act} (hF : Fr 639 a [(0, v0), (1, v1), (5, v5), (35, .int .i64 ((c : Int))), (36, .int .i64 ((b : Int))), (37, .int .i64 ((q : Int))), (39, .int .i64 ((dd : Int))), (43, .int .i64 (a_)), (44, .int .i64 (s_)), (48, v48), (50, .int .i64 ((r : Int))), (51, .int .i64 ((i : Int)))]) (hS : St w0 w [.b v0 code, .b v1 more, .d v5 xs, .n v48 ss]) (h1 : i ≤ 100) (h2 : dd ≤ 100) (h : ¬ i + dd ≤ xs.length)
    (hq : ∀ a' w', Fr 639 a' [(0, v0), (1, v1), (5, v5), (35, .int .i64 ((c : Int))), (36, .int .i64 ((b : Int))), (37, .int .i64 ((q : Int))), (39, .int .i64 ((dd : Int))), (43, .int .i64 (a_)), (44, .int .i64 (s_)), (48, v48), (50, .int .i64 ((r : Int))), (51, .int .i64 ((i : Int))), (507, .bool true)] → St w0 w' [.b v0 code, .b v1 more, .d v5 xs, .n v48 ss] → Q .normal a' w') : (Code.region 61 (opsOf Tryz.f3 61) false).wp Tryz.prog Q a w := by
  conv => arg 2; arg 2; whnf
  refine wp_region_list ?_
  refine fr_pure (want0 rfl) rfl rfl hF (v_move hF rfl rfl) fun a hF => ?_
  refine fr_pure (want0 rfl) rfl rfl hF (v_move hF rfl rfl) fun a hF => ?_
  refine fr_pure (want0 rfl) rfl rfl hF (v_add (r := ((i + dd : Nat) : Int)) hF rfl rfl rfl (by rw [wrap64_in (by omega) (by omega)]; omega)) fun a hF => ?_
  refine fr_pure (want0 rfl) rfl rfl hF (v_move hF rfl rfl) fun a hF => ?_
  refine fr_pure (want0 rfl) rfl rfl hF (v_len24 hF rfl rfl (hS.get 2 rfl)) fun a hF => ?_
  refine fr_pure (want0 rfl) rfl rfl hF (v_gtr (b := true) hF rfl rfl rfl (decide_eq_true (by omega))) fun a hF => ?_
  exact wpList_nil (hq a w (hF.sub ⟨rfl, rfl, rfl, rfl, rfl, rfl, rfl, rfl, rfl, rfl, rfl, rfl, rfl, trivial⟩) (hS.pick [0, 1, 2, 3] rfl))
theorem rg61b {v0 v1 v5 v48 : Value} {code more ss : List Int} {xs : List S43} {b q c dd : Nat} {a_ s_ : Int} {i r : Nat} {Q : Exit → Act → World → Prop} {w0 w : World} {a : Act} (hF : Fr 639 a [(0, v0), (1, v1), (5, v5), (35, .int .i64 ((c : Int))), (36, .int .i64 ((b : Int))), (37, .int .i64 ((q : Int))), (39, .int .i64 ((dd : Int))), (43, .int .i64 (a_)), (44, .int .i64 (s_)), (48, v48), (50, .int .i64 ((r : Int))), (51, .int .i64 ((i : Int)))]) (hS : St w0 w [.b v0 code, .b v1 more, .d v5 xs, .n v48 ss]) (h1 : i ≤ 100) (h2 : dd ≤ 100) (h : i + dd ≤ xs.length)
    (hq : ∀ a' w', Fr 639 a' [(0, v0), (1, v1), (5, v5), (35, .int .i64 ((c : Int))), (36, .int .i64 ((b : Int))), (37, .int .i64 ((q : Int))), (39, .int .i64 ((dd : Int))), (43, .int .i64 (a_)), (44, .int .i64 (s_)), (48, v48), (50, .int .i64 ((r : Int))), (51, .int .i64 ((i : Int))), (507, .bool false)] → St w0 w' [.b v0 code, .b v1 more, .d v5 xs, .n v48 ss] → Q .normal a' w') : (Code.region 61 (opsOf Tryz.f3 61) false).wp Tryz.prog Q a w := by
  conv => arg 2; arg 2; whnf
  refine wp_region_list ?_
  refine fr_pure (want0 rfl) rfl rfl hF (v_move hF rfl rfl) fun a hF => ?_
  refine fr_pure (want0 rfl) rfl rfl hF (v_move hF rfl rfl) fun a hF => ?_
  refine fr_pure (want0 rfl) rfl rfl hF (v_add (r := ((i + dd : Nat) : Int)) hF rfl rfl rfl (by rw [wrap64_in (by omega) (by omega)]; omega)) fun a hF => ?_
  refine fr_pure (want0 rfl) rfl rfl hF (v_move hF rfl rfl) fun a hF => ?_
  refine fr_pure (want0 rfl) rfl rfl hF (v_len24 hF rfl rfl (hS.get 2 rfl)) fun a hF => ?_
  refine fr_pure (want0 rfl) rfl rfl hF (v_gtr (b := false) hF rfl rfl rfl (decide_eq_false (by omega))) fun a hF => ?_
  exact wpList_nil (hq a w (hF.sub ⟨rfl, rfl, rfl, rfl, rfl, rfl, rfl, rfl, rfl, rfl, rfl, rfl, rfl, trivial⟩) (hS.pick [0, 1, 2, 3] rfl))
theorem rg62 {v0 v1 v5 v48 : Value} {code more ss : List Int} {xs : List S43} {b q c dd : Nat} {a_ s_ : Int} {i r : Nat} {Q : Exit → Act → World → Prop} {w0 w : World} {a : Act} (hF : Fr 639 a [(0, v0), (1, v1), (5, v5), (35, .int .i64 ((c : Int))), (36, .int .i64 ((b : Int))), (37, .int .i64 ((q : Int))), (39, .int .i64 ((dd : Int))), (43, .int .i64 (a_)), (44, .int .i64 (s_)), (48, v48), (50, .int .i64 ((r : Int))), (51, .int .i64 ((i : Int)))]) (hS : St w0 w [.b v0 code, .b v1 more, .d v5 xs, .n v48 ss]) (e : Evn (fun k => spec_HasNumber.f k ss (i : Int)) false)
    (hq : ∀ a' w', Fr 639 a' [(0, v0), (1, v1), (5, v5), (35, .int .i64 ((c : Int))), (36, .int .i64 ((b : Int))), (37, .int .i64 ((q : Int))), (39, .int .i64 ((dd : Int))), (43, .int .i64 (a_)), (44, .int .i64 (s_)), (48, v48), (50, .int .i64 ((r : Int))), (51, .int .i64 ((i : Int))), (510, .bool false)] → St w0 w' [.b v0 code, .b v1 more, .d v5 xs, .n v48 ss] → Q .normal a' w') : (Code.region 62 (opsOf Tryz.f3 62) false).wp Tryz.prog Q a w := by
  conv => arg 2; arg 2; whnf
  refine wp_region_list ?_
  refine fr_pure (want0 rfl) rfl rfl hF (v_move hF rfl rfl) fun a hF => ?_
  refine fr_pure (want0 rfl) rfl rfl hF (v_move hF rfl rfl) fun a hF => ?_
  refine fv_call2 (want0 rfl) rfl rfl rfl hF rfl rfl good22 hS (k_spec_HasNumber (hS.get 3 rfl) (e)) fun a w hF hS => ?_
  exact wpList_nil (hq a w (hF.sub ⟨rfl, rfl, rfl, rfl, rfl, rfl, rfl, rfl, rfl, rfl, rfl, rfl, rfl, trivial⟩) (hS.pick [0, 1, 2, 3] rfl))
theorem rg55 {v0 v1 v5 v48 : Value} {code more ss : List Int} {xs : List S43} {b q c dd : Nat} {a_ s_ : Int} {i r : Nat} {Q : Exit → Act → World → Prop} {w0 w : World} {a : Act} (hF : Fr 639 a [(0, v0), (1, v1), (5, v5), (35, .int .i64 ((c : Int))), (36, .int .i64 ((b : Int))), (37, .int .i64 ((q : Int))), (39, .int .i64 ((dd : Int))), (43, .int .i64 (a_)), (44, .int .i64 (s_)), (48, v48), (50, .int .i64 ((r : Int))), (51, .int .i64 ((i : Int)))]) (hS : St w0 w [.b v0 code, .b v1 more, .d v5 xs, .n v48 ss]) (h : i ≤ 1000)
    (hq : ∀ a' w', Fr 639 a' [(0, v0), (1, v1), (5, v5), (35, .int .i64 ((c : Int))), (36, .int .i64 ((b : Int))), (37, .int .i64 ((q : Int))), (39, .int .i64 ((dd : Int))), (43, .int .i64 (a_)), (44, .int .i64 (s_)), (48, v48), (50, .int .i64 ((r : Int))), (51, .int .i64 (((i + 1 : Nat) : Int)))] → St w0 w' [.b v0 code, .b v1 more, .d v5 xs, .n v48 ss] → Q .normal a' w') : (Code.region 55 (opsOf Tryz.f3 55) false).wp Tryz.prog Q a w := by
  conv => arg 2; arg 2; whnf
  refine wp_region_list ?_
  refine fr_pure (want0 rfl) rfl rfl hF (v_move hF rfl rfl) fun a hF => ?_
  refine fr_pure (want0 rfl) rfl rfl hF (v_add (r := ((i + 1 : Nat) : Int)) hF rfl rfl rfl (up64 (by omega))) fun a hF => ?_
  refine fr_pure (want0 rfl) rfl rfl hF (v_assign hF rfl rfl) fun a hF => ?_
  exact wpList_nil (hq a w (hF.sub ⟨rfl, rfl, rfl, rfl, rfl, rfl, rfl, rfl, rfl, rfl, rfl, rfl, trivial⟩) (hS.pick [0, 1, 2, 3] rfl))
theorem rg64 {v0 v1 v5 v48 : Value} {code more ss : List Int} {xs : List S43} {b q c dd : Nat} {a_ s_ : Int} {i r : Nat} {Q : Exit → Act → World → Prop} {w0 w : World} {a : Act} (hF : Fr 639 a [(0, v0), (1, v1), (5, v5), (35, .int .i64 ((c : Int))), (36, .int .i64 ((b : Int))), (37, .int .i64 ((q : Int))), (39, .int .i64 ((dd : Int))), (43, .int .i64 (a_)), (44, .int .i64 (s_)), (48, v48), (50, .int .i64 ((r : Int))), (51, .int .i64 ((i : Int)))]) (hS : St w0 w [.b v0 code, .b v1 more, .d v5 xs, .n v48 ss])
    (hq : ∀ a' w', Fr 639 a' [(0, v0), (1, v1), (5, v5), (35, .int .i64 ((c : Int))), (36, .int .i64 ((b : Int))), (37, .int .i64 ((q : Int))), (39, .int .i64 ((dd : Int))), (43, .int .i64 (a_)), (44, .int .i64 (s_)), (48, v48), (50, .int .i64 ((r : Int))), (51, .int .i64 ((i : Int))), (52, .int .i64 (0))] → St w0 w' [.b v0 code, .b v1 more, .d v5 xs, .n v48 ss] → Q .normal a' w') : (Code.region 64 (opsOf Tryz.f3 64) false).wp Tryz.prog Q a w := by
  conv => arg 2; arg 2; whnf
  refine wp_region_list ?_
  refine fr_pure (want0 rfl) rfl rfl hF (v_assign hF rfl rfl) fun a hF => ?_
  exact wpList_nil (hq a w (hF.sub ⟨rfl, rfl, rfl, rfl, rfl, rfl, rfl, rfl, rfl, rfl, rfl, rfl, rfl, trivial⟩) (hS.pick [0, 1, 2, 3] rfl))
theorem rg65 {v0 v1 v5 v48 : Value} {code more ss : List Int} {xs : List S43} {b q c dd : Nat} {a_ s_ : Int} {i r : Nat} {Q : Exit → Act → World → Prop} {w0 w : World} {a : Act} (hF : Fr 639 a [(0, v0), (1, v1), (5, v5), (35, .int .i64 ((c : Int))), (36, .int .i64 ((b : Int))), (37, .int .i64 ((q : Int))), (39, .int .i64 ((dd : Int))), (43, .int .i64 (a_)), (44, .int .i64 (s_)), (48, v48), (50, .int .i64 ((r : Int))), (51, .int .i64 ((i : Int))), (52, .int .i64 (0))]) (hS : St w0 w [.b v0 code, .b v1 more, .d v5 xs, .n v48 ss])
    (hq : ∀ a' w', Fr 639 a' [(0, v0), (1, v1), (5, v5), (35, .int .i64 ((c : Int))), (36, .int .i64 ((b : Int))), (37, .int .i64 ((q : Int))), (39, .int .i64 ((dd : Int))), (43, .int .i64 (a_)), (44, .int .i64 (s_)), (48, v48), (50, .int .i64 ((r : Int))), (51, .int .i64 ((i : Int))), (52, .int .i64 (0)), (53, .bool true)] → St w0 w' [.b v0 code, .b v1 more, .d v5 xs, .n v48 ss] → Q .normal a' w') : (Code.region 65 (opsOf Tryz.f3 65) false).wp Tryz.prog Q a w := by
  conv => arg 2; arg 2; whnf
  refine wp_region_list ?_
  refine fr_pure (want0 rfl) rfl rfl hF (v_assign hF rfl rfl) fun a hF => ?_
  exact wpList_nil (hq a w (hF.sub ⟨rfl, rfl, rfl, rfl, rfl, rfl, rfl, rfl, rfl, rfl, rfl, rfl, rfl, rfl, trivial⟩) (hS.pick [0, 1, 2, 3] rfl))
theorem rg66 {v0 v1 v5 v48 : Value} {code more ss : List Int} {xs : List S43} {b q c dd : Nat} {a_ s_ : Int} {i r : Nat} {Q : Exit → Act → World → Prop} {w0 w : World} {a : Act} (hF : Fr 639 a [(0, v0), (1, v1), (5, v5), (35, .int .i64 ((c : Int))), (36, .int .i64 ((b : Int))), (37, .int .i64 ((q : Int))), (39, .int .i64 ((dd : Int))), (43, .int .i64 (a_)), (44, .int .i64 (s_)), (48, v48), (50, .int .i64 ((r : Int))), (51, .int .i64 ((i : Int))), (52, .int .i64 (0)), (53, .bool true)]) (hS : St w0 w [.b v0 code, .b v1 more, .d v5 xs, .n v48 ss])
    (hq : ∀ a' w', Fr 639 a' [(0, v0), (1, v1), (5, v5), (35, .int .i64 ((c : Int))), (36, .int .i64 ((b : Int))), (37, .int .i64 ((q : Int))), (39, .int .i64 ((dd : Int))), (43, .int .i64 (a_)), (44, .int .i64 (s_)), (48, v48), (50, .int .i64 ((r : Int))), (51, .int .i64 ((i : Int))), (52, .int .i64 (0)), (53, .bool true), (54, .int .i64 (0))] → St w0 w' [.b v0 code, .b v1 more, .d v5 xs, .n v48 ss] → Q .normal a' w') : (Code.region 66 (opsOf Tryz.f3 66) false).wp Tryz.prog Q a w := by
  conv => arg 2; arg 2; whnf
  refine wp_region_list ?_
  refine fr_pure (want0 rfl) rfl rfl hF (v_assign hF rfl rfl) fun a hF => ?_
  exact wpList_nil (hq a w (hF.sub ⟨rfl, rfl, rfl, rfl, rfl, rfl, rfl, rfl, rfl, rfl, rfl, rfl, rfl, rfl, rfl, trivial⟩) (hS.pick [0, 1, 2, 3] rfl))
theorem rg67a {v0 v1 v5 v48 : Value} {code more ss : List Int} {xs : List S43} {b q c dd : Nat} {a_ s_ : Int} {i r : Nat} {k : Nat} {fb : Bool} {Q : Exit → Act → World → Prop} {w0 w : World} {a : Act} (hF : Fr 639 a [(0, v0), (1, v1), (5, v5), (35, .int .i64 ((c : Int))), (36, .int .i64 ((b : Int))), (37, .int .i64 ((q : Int))), (39, .int .i64 ((dd : Int))), (43, .int .i64 (a_)), (44, .int .i64 (s_)), (48, v48), (50, .int .i64 ((r : Int))), (51, .int .i64 ((i : Int))), (52, .int .i64 (rainM xs i k)), (53, .bool fb), (54, .int .i64 ((k : Int)))]) (hS : St w0 w [.b v0 code, .b v1 more, .d v5 xs, .n v48 ss]) (h : k < dd)
    (hq : ∀ a' w', Fr 639 a' [(0, v0), (1, v1), (5, v5), (35, .int .i64 ((c : Int))), (36, .int .i64 ((b : Int))), (37, .int .i64 ((q : Int))), (39, .int .i64 ((dd : Int))), (43, .int .i64 (a_)), (44, .int .i64 (s_)), (48, v48), (50, .int .i64 ((r : Int))), (51, .int .i64 ((i : Int))), (52, .int .i64 (rainM xs i k)), (53, .bool fb), (54, .int .i64 ((k : Int))), (513, .bool true)] → St w0 w' [.b v0 code, .b v1 more, .d v5 xs, .n v48 ss] → Q .normal a' w') : (Code.region 67 (opsOf Tryz.f3 67) false).wp Tryz.prog Q a w := by
  conv => arg 2; arg 2; whnf
  refine wp_region_list ?_
  refine fr_pure (want0 rfl) rfl rfl hF (v_move hF rfl rfl) fun a hF => ?_
  refine fr_pure (want0 rfl) rfl rfl hF (v_move hF rfl rfl) fun a hF => ?_
  refine fr_pure (want0 rfl) rfl rfl hF (v_lss (b := true) hF rfl rfl rfl (decide_eq_true (by omega))) fun a hF => ?_
  exact wpList_nil (hq a w (hF.sub ⟨rfl, rfl, rfl, rfl, rfl, rfl, rfl, rfl, rfl, rfl, rfl, rfl, rfl, rfl, rfl, rfl, trivial⟩) (hS.pick [0, 1, 2, 3] rfl))
theorem rg67b {v0 v1 v5 v48 : Value} {code more ss : List Int} {xs : List S43} {b q c dd : Nat} {a_ s_ : Int} {i r : Nat} {k : Nat} {fb : Bool} {Q : Exit → Act → World → Prop} {w0 w : World} {a : Act} (hF : Fr 639 a [(0, v0), (1, v1), (5, v5), (35, .int .i64 ((c : Int))), (36, .int .i64 ((b : Int))), (37, .int .i64 ((q : Int))), (39, .int .i64 ((dd : Int))), (43, .int .i64 (a_)), (44, .int .i64 (s_)), (48, v48), (50, .int .i64 ((r : Int))), (51, .int .i64 ((i : Int))), (52, .int .i64 (rainM xs i k)), (53, .bool fb), (54, .int .i64 ((k : Int)))]) (hS : St w0 w [.b v0 code, .b v1 more, .d v5 xs, .n v48 ss]) (h : ¬ k < dd)
    (hq : ∀ a' w', Fr 639 a' [(0, v0), (1, v1), (5, v5), (35, .int .i64 ((c : Int))), (36, .int .i64 ((b : Int))), (37, .int .i64 ((q : Int))), (39, .int .i64 ((dd : Int))), (43, .int .i64 (a_)), (44, .int .i64 (s_)), (48, v48), (50, .int .i64 ((r : Int))), (51, .int .i64 ((i : Int))), (52, .int .i64 (rainM xs i k)), (53, .bool fb), (54, .int .i64 ((k : Int))), (513, .bool false)] → St w0 w' [.b v0 code, .b v1 more, .d v5 xs, .n v48 ss] → Q .normal a' w') : (Code.region 67 (opsOf Tryz.f3 67) false).wp Tryz.prog Q a w := by
  conv => arg 2; arg 2; whnf
  refine wp_region_list ?_
  refine fr_pure (want0 rfl) rfl rfl hF (v_move hF rfl rfl) fun a hF => ?_
  refine fr_pure (want0 rfl) rfl rfl hF (v_move hF rfl rfl) fun a hF => ?_
  refine fr_pure (want0 rfl) rfl rfl hF (v_lss (b := false) hF rfl rfl rfl (decide_eq_false (by omega))) fun a hF => ?_
  exact wpList_nil (hq a w (hF.sub ⟨rfl, rfl, rfl, rfl, rfl, rfl, rfl, rfl, rfl, rfl, rfl, rfl, rfl, rfl, rfl, rfl, trivial⟩) (hS.pick [0, 1, 2, 3] rfl))
theorem rg69 {v0 v1 v5 v48 : Value} {code more ss : List Int} {xs : List S43} {b q c dd : Nat} {a_ s_ : Int} {i r : Nat} {k : Nat} {fb : Bool} {Q : Exit → Act → World → Prop} {w0 w : World} {a : Act} (hF : Fr 639 a [(0, v0), (1, v1), (5, v5), (35, .int .i64 ((c : Int))), (36, .int .i64 ((b : Int))), (37, .int .i64 ((q : Int))), (39, .int .i64 ((dd : Int))), (43, .int .i64 (a_)), (44, .int .i64 (s_)), (48, v48), (50, .int .i64 ((r : Int))), (51, .int .i64 ((i : Int))), (52, .int .i64 (rainM xs i k)), (53, .bool fb), (54, .int .i64 ((k : Int)))]) (hS : St w0 w [.b v0 code, .b v1 more, .d v5 xs, .n v48 ss]) (h : i + k < xs.length) (hl : xs.length ≤ 100) (hx : ∀ x ∈ xs, DayIn x) (hk : k ≤ 30)
    (hq : ∀ a' w', Fr 639 a' [(0, v0), (1, v1), (5, v5), (35, .int .i64 ((c : Int))), (36, .int .i64 ((b : Int))), (37, .int .i64 ((q : Int))), (39, .int .i64 ((dd : Int))), (43, .int .i64 (a_)), (44, .int .i64 (s_)), (48, v48), (50, .int .i64 ((r : Int))), (51, .int .i64 ((i : Int))), (52, .int .i64 (rainM xs i (k + 1))), (53, .bool fb), (54, .int .i64 ((k : Int)))] → St w0 w' [.b v0 code, .b v1 more, .d v5 xs, .n v48 ss] → Q .normal a' w') : (Code.region 69 (opsOf Tryz.f3 69) false).wp Tryz.prog Q a w := by
  conv => arg 2; arg 2; whnf
  refine wp_region_list ?_
  refine fr_pure (want0 rfl) rfl rfl hF (v_move hF rfl rfl) fun a hF => ?_
  refine fr_pure (want0 rfl) rfl rfl hF (v_move hF rfl rfl) fun a hF => ?_
  refine fr_pure (want0 rfl) rfl rfl hF (v_move hF rfl rfl) fun a hF => ?_
  refine fr_pure (want0 rfl) rfl rfl hF (v_move hF rfl rfl) fun a hF => ?_
  refine fr_pure (want0 rfl) rfl rfl hF (v_add (r := ((i + k : Nat) : Int)) hF rfl rfl rfl (by rw [wrap64_in (by omega) (by omega)]; omega)) fun a hF => ?_
  refine fr_pure (want0 rfl) rfl rfl hF (v_index24 hF rfl rfl rfl (hS.get 2 rfl) (by omega) (by omega)) fun a hF => ?_
  refine fr_pure (want0 rfl) rfl rfl hF (v_field0 hF rfl rfl (hS.get 2 rfl) (by omega)) fun a hF => ?_
  refine fr_pure (want0 rfl) rfl rfl hF (v_load41a (i := ((i + k : Nat) : Int)) hF rfl rfl (hS.get 2 rfl) (by omega) (by omega)) fun a hF => ?_
  refine fr_pure (want0 rfl) rfl rfl hF (v_conv (r := (rd_T43 xs ((i + k : Nat) : Int)).f0) hF rfl rfl ((day_w (hx _ (rd_mem xs (i + k) h))).1)) fun a hF => ?_
  refine fr_pure (want0 rfl) rfl rfl hF (v_add (r := rainM xs i (k + 1)) hF rfl rfl rfl (rain_w xs hx i k (by omega) hk h)) fun a hF => ?_
  refine fr_pure (want0 rfl) rfl rfl hF (v_assign hF rfl rfl) fun a hF => ?_
  exact wpList_nil (hq a w (hF.sub ⟨rfl, rfl, rfl, rfl, rfl, rfl, rfl, rfl, rfl, rfl, rfl, rfl, rfl, rfl, rfl, trivial⟩) (hS.pick [0, 1, 2, 3] rfl))
theorem rg70a {v0 v1 v5 v48 : Value} {code more ss : List Int} {xs : List S43} {b q c dd : Nat} {a_ s_ : Int} {i r : Nat} {k : Nat} {Q : Exit → Act → World → Prop} {w0 w : World} {a : Act} (hF : Fr 639 a [(0, v0), (1, v1), (5, v5), (35, .int .i64 ((c : Int))), (36, .int .i64 ((b : Int))), (37, .int .i64 ((q : Int))), (39, .int .i64 ((dd : Int))), (43, .int .i64 (a_)), (44, .int .i64 (s_)), (48, v48), (50, .int .i64 ((r : Int))), (51, .int .i64 ((i : Int))), (52, .int .i64 (rainM xs i (k + 1))), (53, .bool false), (54, .int .i64 ((k : Int)))]) (hS : St w0 w [.b v0 code, .b v1 more, .d v5 xs, .n v48 ss]) (h : i + k < xs.length) (hl : xs.length ≤ 100)
    (hq : ∀ a' w', Fr 639 a' [(0, v0), (1, v1), (5, v5), (35, .int .i64 ((c : Int))), (36, .int .i64 ((b : Int))), (37, .int .i64 ((q : Int))), (39, .int .i64 ((dd : Int))), (43, .int .i64 (a_)), (44, .int .i64 (s_)), (48, v48), (50, .int .i64 ((r : Int))), (51, .int .i64 ((i : Int))), (52, .int .i64 (rainM xs i (k + 1))), (53, .bool false), (54, .int .i64 ((k : Int)))] → St w0 w' [.b v0 code, .b v1 more, .d v5 xs, .n v48 ss] → Q .normal a' w') : (Code.region 70 (opsOf Tryz.f3 70) false).wp Tryz.prog Q a w := by
  conv => arg 2; arg 2; whnf
  refine wp_region_list ?_
  refine fr_pure (want0 rfl) rfl rfl hF (v_move hF rfl rfl) fun a hF => ?_
  refine fr_pure (want0 rfl) rfl rfl hF (v_move hF rfl rfl) fun a hF => ?_
  refine fr_skip (hF.skip rfl rfl rfl rfl rfl) rfl rfl hF fun a hF => ?_
  refine fr_skip (hF.skip rfl rfl rfl rfl rfl) rfl rfl hF fun a hF => ?_
  refine fr_skip (hF.skip rfl rfl rfl rfl rfl) rfl rfl hF fun a hF => ?_
  refine fr_skip (hF.skip rfl rfl rfl rfl rfl) rfl rfl hF fun a hF => ?_
  refine fr_skip (hF.skip rfl rfl rfl rfl rfl) rfl rfl hF fun a hF => ?_
  refine fr_skip (hF.skip rfl rfl rfl rfl rfl) rfl rfl hF fun a hF => ?_
  refine fr_skip (hF.skip rfl rfl rfl rfl rfl) rfl rfl hF fun a hF => ?_
  refine fr_skip (hF.skip rfl rfl rfl rfl rfl) rfl rfl hF fun a hF => ?_
  refine fr_pure (want0 rfl) rfl rfl hF (v_pick hF rfl rfl rfl) fun a hF => ?_
  refine fr_pure (want0 rfl) rfl rfl hF (v_move hF rfl rfl) fun a hF => ?_
  refine fr_skip (hF.skip rfl rfl rfl rfl rfl) rfl rfl hF fun a hF => ?_
  refine fr_skip (hF.skip rfl rfl rfl rfl rfl) rfl rfl hF fun a hF => ?_
  refine fr_skip (hF.skip rfl rfl rfl rfl rfl) rfl rfl hF fun a hF => ?_
  refine fr_skip (hF.skip rfl rfl rfl rfl rfl) rfl rfl hF fun a hF => ?_
  refine fr_skip (hF.skip rfl rfl rfl rfl rfl) rfl rfl hF fun a hF => ?_
  refine fr_skip (hF.skip rfl rfl rfl rfl rfl) rfl rfl hF fun a hF => ?_
  refine fr_skip (hF.skip rfl rfl rfl rfl rfl) rfl rfl hF fun a hF => ?_
  refine fr_skip (hF.skip rfl rfl rfl rfl rfl) rfl rfl hF fun a hF => ?_
  refine fr_pure (want0 rfl) rfl rfl hF (v_pick hF rfl rfl rfl) fun a hF => ?_
  refine fr_pure (want0 rfl) rfl rfl hF (v_assign hF rfl rfl) fun a hF => ?_
  exact wpList_nil (hq a w (hF.sub ⟨rfl, rfl, rfl, rfl, rfl, rfl, rfl, rfl, rfl, rfl, rfl, rfl, rfl, rfl, rfl, trivial⟩) (hS.pick [0, 1, 2, 3] rfl))
theorem rg70b {v0 v1 v5 v48 : Value} {code more ss : List Int} {xs : List S43} {b q c dd : Nat} {a_ s_ : Int} {i r : Nat} {k : Nat} {Q : Exit → Act → World → Prop} {w0 w : World} {a : Act} (hF : Fr 639 a [(0, v0), (1, v1), (5, v5), (35, .int .i64 ((c : Int))), (36, .int .i64 ((b : Int))), (37, .int .i64 ((q : Int))), (39, .int .i64 ((dd : Int))), (43, .int .i64 (a_)), (44, .int .i64 (s_)), (48, v48), (50, .int .i64 ((r : Int))), (51, .int .i64 ((i : Int))), (52, .int .i64 (rainM xs i (k + 1))), (53, .bool true), (54, .int .i64 ((k : Int)))]) (hS : St w0 w [.b v0 code, .b v1 more, .d v5 xs, .n v48 ss]) (h : i + k < xs.length) (hl : xs.length ≤ 100) (h5 : ¬ 5 ≤ (rd_T43 xs ((i + k : Nat) : Int)).f0)
    (hq : ∀ a' w', Fr 639 a' [(0, v0), (1, v1), (5, v5), (35, .int .i64 ((c : Int))), (36, .int .i64 ((b : Int))), (37, .int .i64 ((q : Int))), (39, .int .i64 ((dd : Int))), (43, .int .i64 (a_)), (44, .int .i64 (s_)), (48, v48), (50, .int .i64 ((r : Int))), (51, .int .i64 ((i : Int))), (52, .int .i64 (rainM xs i (k + 1))), (53, .bool false), (54, .int .i64 ((k : Int)))] → St w0 w' [.b v0 code, .b v1 more, .d v5 xs, .n v48 ss] → Q .normal a' w') : (Code.region 70 (opsOf Tryz.f3 70) false).wp Tryz.prog Q a w := by
  conv => arg 2; arg 2; whnf
  refine wp_region_list ?_
  refine fr_pure (want0 rfl) rfl rfl hF (v_move hF rfl rfl) fun a hF => ?_
  refine fr_pure (want0 rfl) rfl rfl hF (v_move hF rfl rfl) fun a hF => ?_
  refine fr_pure (hF.want rfl rfl rfl rfl) rfl rfl hF (v_move hF rfl rfl) fun a hF => ?_
  refine fr_pure (hF.want rfl rfl rfl rfl) rfl rfl hF (v_move hF rfl rfl) fun a hF => ?_
  refine fr_pure (hF.want rfl rfl rfl rfl) rfl rfl hF (v_move hF rfl rfl) fun a hF => ?_
  refine fr_pure (hF.want rfl rfl rfl rfl) rfl rfl hF (v_add (r := ((i + k : Nat) : Int)) hF rfl rfl rfl (by rw [wrap64_in (by omega) (by omega)]; omega)) fun a hF => ?_
  refine fr_pure (hF.want rfl rfl rfl rfl) rfl rfl hF (v_index24 hF rfl rfl rfl (hS.get 2 rfl) (by omega) (by omega)) fun a hF => ?_
  refine fr_pure (hF.want rfl rfl rfl rfl) rfl rfl hF (v_field0 hF rfl rfl (hS.get 2 rfl) (by omega)) fun a hF => ?_
  refine fr_pure (hF.want rfl rfl rfl rfl) rfl rfl hF (v_load41a (i := ((i + k : Nat) : Int)) hF rfl rfl (hS.get 2 rfl) (by omega) (by omega)) fun a hF => ?_
  refine fr_pure (hF.want rfl rfl rfl rfl) rfl rfl hF (v_geq (b := false) hF rfl rfl rfl (decide_eq_false (by omega))) fun a hF => ?_
  refine fr_pure (want0 rfl) rfl rfl hF (v_pick hF rfl rfl rfl) fun a hF => ?_
  refine fr_pure (want0 rfl) rfl rfl hF (v_move hF rfl rfl) fun a hF => ?_
  refine fr_skip (hF.skip rfl rfl rfl rfl rfl) rfl rfl hF fun a hF => ?_
  refine fr_skip (hF.skip rfl rfl rfl rfl rfl) rfl rfl hF fun a hF => ?_
  refine fr_skip (hF.skip rfl rfl rfl rfl rfl) rfl rfl hF fun a hF => ?_
  refine fr_skip (hF.skip rfl rfl rfl rfl rfl) rfl rfl hF fun a hF => ?_
  refine fr_skip (hF.skip rfl rfl rfl rfl rfl) rfl rfl hF fun a hF => ?_
  refine fr_skip (hF.skip rfl rfl rfl rfl rfl) rfl rfl hF fun a hF => ?_
  refine fr_skip (hF.skip rfl rfl rfl rfl rfl) rfl rfl hF fun a hF => ?_
  refine fr_skip (hF.skip rfl rfl rfl rfl rfl) rfl rfl hF fun a hF => ?_
  refine fr_pure (want0 rfl) rfl rfl hF (v_pick hF rfl rfl rfl) fun a hF => ?_
  refine fr_pure (want0 rfl) rfl rfl hF (v_assign hF rfl rfl) fun a hF => ?_
  exact wpList_nil (hq a w (hF.sub ⟨rfl, rfl, rfl, rfl, rfl, rfl, rfl, rfl, rfl, rfl, rfl, rfl, rfl, rfl, rfl, trivial⟩) (hS.pick [0, 1, 2, 3] rfl))
theorem rg70c {v0 v1 v5 v48 : Value} {code more ss : List Int} {xs : List S43} {b q c dd : Nat} {a_ s_ : Int} {i r : Nat} {k : Nat} {Q : Exit → Act → World → Prop} {w0 w : World} {a : Act} (hF : Fr 639 a [(0, v0), (1, v1), (5, v5), (35, .int .i64 ((c : Int))), (36, .int .i64 ((b : Int))), (37, .int .i64 ((q : Int))), (39, .int .i64 ((dd : Int))), (43, .int .i64 (a_)), (44, .int .i64 (s_)), (48, v48), (50, .int .i64 ((r : Int))), (51, .int .i64 ((i : Int))), (52, .int .i64 (rainM xs i (k + 1))), (53, .bool true), (54, .int .i64 ((k : Int)))]) (hS : St w0 w [.b v0 code, .b v1 more, .d v5 xs, .n v48 ss]) (h : i + k < xs.length) (hl : xs.length ≤ 100) (h5 : 5 ≤ (rd_T43 xs ((i + k : Nat) : Int)).f0) (h6 : ¬ 10 ≤ (rd_T43 xs ((i + k : Nat) : Int)).f1)
    (hq : ∀ a' w', Fr 639 a' [(0, v0), (1, v1), (5, v5), (35, .int .i64 ((c : Int))), (36, .int .i64 ((b : Int))), (37, .int .i64 ((q : Int))), (39, .int .i64 ((dd : Int))), (43, .int .i64 (a_)), (44, .int .i64 (s_)), (48, v48), (50, .int .i64 ((r : Int))), (51, .int .i64 ((i : Int))), (52, .int .i64 (rainM xs i (k + 1))), (53, .bool false), (54, .int .i64 ((k : Int)))] → St w0 w' [.b v0 code, .b v1 more, .d v5 xs, .n v48 ss] → Q .normal a' w') : (Code.region 70 (opsOf Tryz.f3 70) false).wp Tryz.prog Q a w := by
  conv => arg 2; arg 2; whnf
  refine wp_region_list ?_
  refine fr_pure (want0 rfl) rfl rfl hF (v_move hF rfl rfl) fun a hF => ?_
  refine fr_pure (want0 rfl) rfl rfl hF (v_move hF rfl rfl) fun a hF => ?_
  refine fr_pure (hF.want rfl rfl rfl rfl) rfl rfl hF (v_move hF rfl rfl) fun a hF => ?_
  refine fr_pure (hF.want rfl rfl rfl rfl) rfl rfl hF (v_move hF rfl rfl) fun a hF => ?_
  refine fr_pure (hF.want rfl rfl rfl rfl) rfl rfl hF (v_move hF rfl rfl) fun a hF => ?_
  refine fr_pure (hF.want rfl rfl rfl rfl) rfl rfl hF (v_add (r := ((i + k : Nat) : Int)) hF rfl rfl rfl (by rw [wrap64_in (by omega) (by omega)]; omega)) fun a hF => ?_
  refine fr_pure (hF.want rfl rfl rfl rfl) rfl rfl hF (v_index24 hF rfl rfl rfl (hS.get 2 rfl) (by omega) (by omega)) fun a hF => ?_
  refine fr_pure (hF.want rfl rfl rfl rfl) rfl rfl hF (v_field0 hF rfl rfl (hS.get 2 rfl) (by omega)) fun a hF => ?_
  refine fr_pure (hF.want rfl rfl rfl rfl) rfl rfl hF (v_load41a (i := ((i + k : Nat) : Int)) hF rfl rfl (hS.get 2 rfl) (by omega) (by omega)) fun a hF => ?_
  refine fr_pure (hF.want rfl rfl rfl rfl) rfl rfl hF (v_geq (b := true) hF rfl rfl rfl (decide_eq_true (by omega))) fun a hF => ?_
  refine fr_pure (want0 rfl) rfl rfl hF (v_pick hF rfl rfl rfl) fun a hF => ?_
  refine fr_pure (want0 rfl) rfl rfl hF (v_move hF rfl rfl) fun a hF => ?_
  refine fr_pure (hF.want rfl rfl rfl rfl) rfl rfl hF (v_move hF rfl rfl) fun a hF => ?_
  refine fr_pure (hF.want rfl rfl rfl rfl) rfl rfl hF (v_move hF rfl rfl) fun a hF => ?_
  refine fr_pure (hF.want rfl rfl rfl rfl) rfl rfl hF (v_move hF rfl rfl) fun a hF => ?_
  refine fr_pure (hF.want rfl rfl rfl rfl) rfl rfl hF (v_add (r := ((i + k : Nat) : Int)) hF rfl rfl rfl (by rw [wrap64_in (by omega) (by omega)]; omega)) fun a hF => ?_
  refine fr_pure (hF.want rfl rfl rfl rfl) rfl rfl hF (v_index24 hF rfl rfl rfl (hS.get 2 rfl) (by omega) (by omega)) fun a hF => ?_
  refine fr_pure (hF.want rfl rfl rfl rfl) rfl rfl hF (v_field1 hF rfl rfl (hS.get 2 rfl) (by omega)) fun a hF => ?_
  refine fr_pure (hF.want rfl rfl rfl rfl) rfl rfl hF (v_load41b (i := ((i + k : Nat) : Int)) hF rfl rfl (hS.get 2 rfl) (by omega) (by omega)) fun a hF => ?_
  refine fr_pure (hF.want rfl rfl rfl rfl) rfl rfl hF (v_geq (b := false) hF rfl rfl rfl (decide_eq_false (by omega))) fun a hF => ?_
  refine fr_pure (want0 rfl) rfl rfl hF (v_pick hF rfl rfl rfl) fun a hF => ?_
  refine fr_pure (want0 rfl) rfl rfl hF (v_assign hF rfl rfl) fun a hF => ?_
  exact wpList_nil (hq a w (hF.sub ⟨rfl, rfl, rfl, rfl, rfl, rfl, rfl, rfl, rfl, rfl, rfl, rfl, rfl, rfl, rfl, trivial⟩) (hS.pick [0, 1, 2, 3] rfl))
theorem rg70d {v0 v1 v5 v48 : Value} {code more ss : List Int} {xs : List S43} {b q c dd : Nat} {a_ s_ : Int} {i r : Nat} {k : Nat} {Q : Exit → Act → World → Prop} {w0 w : World} {a : Act} (hF : Fr 639 a [(0, v0), (1, v1), (5, v5), (35, .int .i64 ((c : Int))), (36, .int .i64 ((b : Int))), (37, .int .i64 ((q : Int))), (39, .int .i64 ((dd : Int))), (43, .int .i64 (a_)), (44, .int .i64 (s_)), (48, v48), (50, .int .i64 ((r : Int))), (51, .int .i64 ((i : Int))), (52, .int .i64 (rainM xs i (k + 1))), (53, .bool true), (54, .int .i64 ((k : Int)))]) (hS : St w0 w [.b v0 code, .b v1 more, .d v5 xs, .n v48 ss]) (h : i + k < xs.length) (hl : xs.length ≤ 100) (h5 : 5 ≤ (rd_T43 xs ((i + k : Nat) : Int)).f0) (h6 : 10 ≤ (rd_T43 xs ((i + k : Nat) : Int)).f1)
    (hq : ∀ a' w', Fr 639 a' [(0, v0), (1, v1), (5, v5), (35, .int .i64 ((c : Int))), (36, .int .i64 ((b : Int))), (37, .int .i64 ((q : Int))), (39, .int .i64 ((dd : Int))), (43, .int .i64 (a_)), (44, .int .i64 (s_)), (48, v48), (50, .int .i64 ((r : Int))), (51, .int .i64 ((i : Int))), (52, .int .i64 (rainM xs i (k + 1))), (53, .bool true), (54, .int .i64 ((k : Int)))] → St w0 w' [.b v0 code, .b v1 more, .d v5 xs, .n v48 ss] → Q .normal a' w') : (Code.region 70 (opsOf Tryz.f3 70) false).wp Tryz.prog Q a w := by
  conv => arg 2; arg 2; whnf
  refine wp_region_list ?_
  refine fr_pure (want0 rfl) rfl rfl hF (v_move hF rfl rfl) fun a hF => ?_
  refine fr_pure (want0 rfl) rfl rfl hF (v_move hF rfl rfl) fun a hF => ?_
  refine fr_pure (hF.want rfl rfl rfl rfl) rfl rfl hF (v_move hF rfl rfl) fun a hF => ?_
  refine fr_pure (hF.want rfl rfl rfl rfl) rfl rfl hF (v_move hF rfl rfl) fun a hF => ?_
  refine fr_pure (hF.want rfl rfl rfl rfl) rfl rfl hF (v_move hF rfl rfl) fun a hF => ?_
  refine fr_pure (hF.want rfl rfl rfl rfl) rfl rfl hF (v_add (r := ((i + k : Nat) : Int)) hF rfl rfl rfl (by rw [wrap64_in (by omega) (by omega)]; omega)) fun a hF => ?_
  refine fr_pure (hF.want rfl rfl rfl rfl) rfl rfl hF (v_index24 hF rfl rfl rfl (hS.get 2 rfl) (by omega) (by omega)) fun a hF => ?_
  refine fr_pure (hF.want rfl rfl rfl rfl) rfl rfl hF (v_field0 hF rfl rfl (hS.get 2 rfl) (by omega)) fun a hF => ?_
  refine fr_pure (hF.want rfl rfl rfl rfl) rfl rfl hF (v_load41a (i := ((i + k : Nat) : Int)) hF rfl rfl (hS.get 2 rfl) (by omega) (by omega)) fun a hF => ?_
  refine fr_pure (hF.want rfl rfl rfl rfl) rfl rfl hF (v_geq (b := true) hF rfl rfl rfl (decide_eq_true (by omega))) fun a hF => ?_
  refine fr_pure (want0 rfl) rfl rfl hF (v_pick hF rfl rfl rfl) fun a hF => ?_
  refine fr_pure (want0 rfl) rfl rfl hF (v_move hF rfl rfl) fun a hF => ?_
  refine fr_pure (hF.want rfl rfl rfl rfl) rfl rfl hF (v_move hF rfl rfl) fun a hF => ?_
  refine fr_pure (hF.want rfl rfl rfl rfl) rfl rfl hF (v_move hF rfl rfl) fun a hF => ?_
  refine fr_pure (hF.want rfl rfl rfl rfl) rfl rfl hF (v_move hF rfl rfl) fun a hF => ?_
  refine fr_pure (hF.want rfl rfl rfl rfl) rfl rfl hF (v_add (r := ((i + k : Nat) : Int)) hF rfl rfl rfl (by rw [wrap64_in (by omega) (by omega)]; omega)) fun a hF => ?_
  refine fr_pure (hF.want rfl rfl rfl rfl) rfl rfl hF (v_index24 hF rfl rfl rfl (hS.get 2 rfl) (by omega) (by omega)) fun a hF => ?_
  refine fr_pure (hF.want rfl rfl rfl rfl) rfl rfl hF (v_field1 hF rfl rfl (hS.get 2 rfl) (by omega)) fun a hF => ?_
  refine fr_pure (hF.want rfl rfl rfl rfl) rfl rfl hF (v_load41b (i := ((i + k : Nat) : Int)) hF rfl rfl (hS.get 2 rfl) (by omega) (by omega)) fun a hF => ?_
  refine fr_pure (hF.want rfl rfl rfl rfl) rfl rfl hF (v_geq (b := true) hF rfl rfl rfl (decide_eq_true (by omega))) fun a hF => ?_
  refine fr_pure (want0 rfl) rfl rfl hF (v_pick hF rfl rfl rfl) fun a hF => ?_
  refine fr_pure (want0 rfl) rfl rfl hF (v_assign hF rfl rfl) fun a hF => ?_
  exact wpList_nil (hq a w (hF.sub ⟨rfl, rfl, rfl, rfl, rfl, rfl, rfl, rfl, rfl, rfl, rfl, rfl, rfl, rfl, rfl, trivial⟩) (hS.pick [0, 1, 2, 3] rfl))
theorem rg68 {v0 v1 v5 v48 : Value} {code more ss : List Int} {xs : List S43} {b q c dd : Nat} {a_ s_ : Int} {i r : Nat} {k : Nat} {fb : Bool} {Q : Exit → Act → World → Prop} {w0 w : World} {a : Act} (hF : Fr 639 a [(0, v0), (1, v1), (5, v5), (35, .int .i64 ((c : Int))), (36, .int .i64 ((b : Int))), (37, .int .i64 ((q : Int))), (39, .int .i64 ((dd : Int))), (43, .int .i64 (a_)), (44, .int .i64 (s_)), (48, v48), (50, .int .i64 ((r : Int))), (51, .int .i64 ((i : Int))), (52, .int .i64 (rainM xs i (k + 1))), (53, .bool fb), (54, .int .i64 ((k : Int)))]) (hS : St w0 w [.b v0 code, .b v1 more, .d v5 xs, .n v48 ss]) (h : k ≤ 1000)
    (hq : ∀ a' w', Fr 639 a' [(0, v0), (1, v1), (5, v5), (35, .int .i64 ((c : Int))), (36, .int .i64 ((b : Int))), (37, .int .i64 ((q : Int))), (39, .int .i64 ((dd : Int))), (43, .int .i64 (a_)), (44, .int .i64 (s_)), (48, v48), (50, .int .i64 ((r : Int))), (51, .int .i64 ((i : Int))), (52, .int .i64 (rainM xs i (k + 1))), (53, .bool fb), (54, .int .i64 (((k + 1 : Nat) : Int)))] → St w0 w' [.b v0 code, .b v1 more, .d v5 xs, .n v48 ss] → Q .normal a' w') : (Code.region 68 (opsOf Tryz.f3 68) false).wp Tryz.prog Q a w := by
  conv => arg 2; arg 2; whnf
  refine wp_region_list ?_
  refine fr_pure (want0 rfl) rfl rfl hF (v_move hF rfl rfl) fun a hF => ?_
  refine fr_pure (want0 rfl) rfl rfl hF (v_add (r := ((k + 1 : Nat) : Int)) hF rfl rfl rfl (up64 (by omega))) fun a hF => ?_
  refine fr_pure (want0 rfl) rfl rfl hF (v_assign hF rfl rfl) fun a hF => ?_
  exact wpList_nil (hq a w (hF.sub ⟨rfl, rfl, rfl, rfl, rfl, rfl, rfl, rfl, rfl, rfl, rfl, rfl, rfl, rfl, rfl, trivial⟩) (hS.pick [0, 1, 2, 3] rfl))
theorem rg71a {v0 v1 v5 v48 : Value} {code more ss : List Int} {xs : List S43} {b q c dd : Nat} {a_ s_ : Int} {i r : Nat} {fa : Int} {fb : Bool} {Q : Exit → Act → World → Prop} {w0 w : World} {a : Act} (hF : Fr 639 a [(0, v0), (1, v1), (5, v5), (35, .int .i64 ((c : Int))), (36, .int .i64 ((b : Int))), (37, .int .i64 ((q : Int))), (39, .int .i64 ((dd : Int))), (43, .int .i64 (a_)), (44, .int .i64 (s_)), (48, v48), (50, .int .i64 ((r : Int))), (51, .int .i64 ((i : Int))), (52, .int .i64 (fa)), (53, .bool fb)]) (hS : St w0 w [.b v0 code, .b v1 more, .d v5 xs, .n v48 ss]) (e : Evn (fun k => spec_HasNumber.f k ss (i : Int)) fb) (h : fa = s_) (h2 : a_ ≤ i) (h3 : (i : Int) = a_)
    (hq : ∀ a' w', Fr 639 a' [(0, v0), (1, v1), (5, v5), (35, .int .i64 ((c : Int))), (36, .int .i64 ((b : Int))), (37, .int .i64 ((q : Int))), (39, .int .i64 ((dd : Int))), (43, .int .i64 (a_)), (44, .int .i64 (s_)), (48, v48), (50, .int .i64 ((r : Int))), (51, .int .i64 ((i : Int))), (576, .bool false)] → St w0 w' [.b v0 code, .b v1 more, .d v5 xs, .n v48 ss] → Q .normal a' w') : (Code.region 71 (opsOf Tryz.f3 71) false).wp Tryz.prog Q a w := by
  conv => arg 2; arg 2; whnf
  refine wp_region_list ?_
  refine fr_pure (want0 rfl) rfl rfl hF (v_move hF rfl rfl) fun a hF => ?_
  refine fr_pure (want0 rfl) rfl rfl hF (v_move hF rfl rfl) fun a hF => ?_
  refine fr_pure (want0 rfl) rfl rfl hF (v_gtr (b := false) hF rfl rfl rfl (decide_eq_false (by omega))) fun a hF => ?_
  refine fr_pure (want0 rfl) rfl rfl hF (v_move hF rfl rfl) fun a hF => ?_
  refine fr_pure (hF.want rfl rfl rfl rfl) rfl rfl hF (v_move hF rfl rfl) fun a hF => ?_
  refine fr_pure (hF.want rfl rfl rfl rfl) rfl rfl hF (v_move hF rfl rfl) fun a hF => ?_
  refine fr_pure (hF.want rfl rfl rfl rfl) rfl rfl hF (v_eql (b := true) hF rfl rfl rfl (decide_eq_true (by omega))) fun a hF => ?_
  refine fr_pure (hF.want rfl rfl rfl rfl) rfl rfl hF (v_move hF rfl rfl) fun a hF => ?_
  refine fr_pure (hF.want rfl rfl rfl rfl) rfl rfl hF (v_move hF rfl rfl) fun a hF => ?_
  refine fr_pure (hF.want rfl rfl rfl rfl) rfl rfl hF (v_move hF rfl rfl) fun a hF => ?_
  refine fr_pure (hF.want rfl rfl rfl rfl) rfl rfl hF (v_lss (b := false) hF rfl rfl rfl (decide_eq_false (by omega))) fun a hF => ?_
  refine fr_pure (hF.want rfl rfl rfl rfl) rfl rfl hF (v_pick hF rfl rfl rfl) fun a hF => ?_
  refine fr_pure (want0 rfl) rfl rfl hF (v_pick hF rfl rfl rfl) fun a hF => ?_
  refine fr_pure (want0 rfl) rfl rfl hF (v_move hF rfl rfl) fun a hF => ?_
  refine fr_pure (hF.want rfl rfl rfl rfl) rfl rfl hF (v_move hF rfl rfl) fun a hF => ?_
  refine fr_pure (hF.want rfl rfl rfl rfl) rfl rfl hF (v_move hF rfl rfl) fun a hF => ?_
  refine fr_pure (hF.want rfl rfl rfl rfl) rfl rfl hF (v_eql (b := true) hF rfl rfl rfl (decide_eq_true (by omega))) fun a hF => ?_
  refine fr_pure (hF.want rfl rfl rfl rfl) rfl rfl hF (v_move hF rfl rfl) fun a hF => ?_
  refine fr_pure (hF.want rfl rfl rfl rfl) rfl rfl hF (v_move hF rfl rfl) fun a hF => ?_
  refine fr_pure (hF.want rfl rfl rfl rfl) rfl rfl hF (v_move hF rfl rfl) fun a hF => ?_
  refine fr_pure (hF.want rfl rfl rfl rfl) rfl rfl hF (v_neq (b := false) hF rfl rfl rfl (decide_eq_false (by omega))) fun a hF => ?_
  refine fr_pure (hF.want rfl rfl rfl rfl) rfl rfl hF (v_pick hF rfl rfl rfl) fun a hF => ?_
  refine fr_pure (want0 rfl) rfl rfl hF (v_pick hF rfl rfl rfl) fun a hF => ?_
  refine fr_pure (want0 rfl) rfl rfl hF (v_move hF rfl rfl) fun a hF => ?_
  refine fr_pure (hF.want rfl rfl rfl rfl) rfl rfl hF (v_move hF rfl rfl) fun a hF => ?_
  refine fr_pure (hF.want rfl rfl rfl rfl) rfl rfl hF (v_move hF rfl rfl) fun a hF => ?_
  refine fv_call2 (hF.want rfl rfl rfl rfl) rfl rfl rfl hF rfl rfl good22 hS (k_spec_HasNumber (hS.get 3 rfl) (e)) fun a w hF hS => ?_
  refine fr_pure (hF.want rfl rfl rfl rfl) rfl rfl hF (v_move hF rfl rfl) fun a hF => ?_
  refine fr_pure (hF.want rfl rfl rfl rfl) rfl rfl hF (v_neqB (p := false) hF rfl rfl rfl (by simp)) fun a hF => ?_
  refine fr_pure (want0 rfl) rfl rfl hF (v_pick hF rfl rfl rfl) fun a hF => ?_
  exact wpList_nil (hq a w (hF.sub ⟨rfl, rfl, rfl, rfl, rfl, rfl, rfl, rfl, rfl, rfl, rfl, rfl, rfl, trivial⟩) (hS.pick [0, 1, 2, 3] rfl))
theorem rg71b {v0 v1 v5 v48 : Value} {code more ss : List Int} {xs : List S43} {b q c dd : Nat} {a_ s_ : Int} {i r : Nat} {fa : Int} {fb : Bool} {Q : Exit → Act → World → Prop} {w0 w : World} {a : Act} (hF : Fr 639 a [(0, v0), (1, v1), (5, v5), (35, .int .i64 ((c : Int))), (36, .int .i64 ((b : Int))), (37, .int .i64 ((q : Int))), (39, .int .i64 ((dd : Int))), (43, .int .i64 (a_)), (44, .int .i64 (s_)), (48, v48), (50, .int .i64 ((r : Int))), (51, .int .i64 ((i : Int))), (52, .int .i64 (fa)), (53, .bool fb)]) (hS : St w0 w [.b v0 code, .b v1 more, .d v5 xs, .n v48 ss]) (e : Evn (fun k => spec_HasNumber.f k ss (i : Int)) fb) (h : fa = s_) (h2 : a_ ≤ i) (h3 : ¬ (i : Int) = a_)
    (hq : ∀ a' w', Fr 639 a' [(0, v0), (1, v1), (5, v5), (35, .int .i64 ((c : Int))), (36, .int .i64 ((b : Int))), (37, .int .i64 ((q : Int))), (39, .int .i64 ((dd : Int))), (43, .int .i64 (a_)), (44, .int .i64 (s_)), (48, v48), (50, .int .i64 ((r : Int))), (51, .int .i64 ((i : Int))), (576, .bool false)] → St w0 w' [.b v0 code, .b v1 more, .d v5 xs, .n v48 ss] → Q .normal a' w') : (Code.region 71 (opsOf Tryz.f3 71) false).wp Tryz.prog Q a w := by
  conv => arg 2; arg 2; whnf
  refine wp_region_list ?_
  refine fr_pure (want0 rfl) rfl rfl hF (v_move hF rfl rfl) fun a hF => ?_
  refine fr_pure (want0 rfl) rfl rfl hF (v_move hF rfl rfl) fun a hF => ?_
  refine fr_pure (want0 rfl) rfl rfl hF (v_gtr (b := false) hF rfl rfl rfl (decide_eq_false (by omega))) fun a hF => ?_
  refine fr_pure (want0 rfl) rfl rfl hF (v_move hF rfl rfl) fun a hF => ?_
  refine fr_pure (hF.want rfl rfl rfl rfl) rfl rfl hF (v_move hF rfl rfl) fun a hF => ?_
  refine fr_pure (hF.want rfl rfl rfl rfl) rfl rfl hF (v_move hF rfl rfl) fun a hF => ?_
  refine fr_pure (hF.want rfl rfl rfl rfl) rfl rfl hF (v_eql (b := true) hF rfl rfl rfl (decide_eq_true (by omega))) fun a hF => ?_
  refine fr_pure (hF.want rfl rfl rfl rfl) rfl rfl hF (v_move hF rfl rfl) fun a hF => ?_
  refine fr_pure (hF.want rfl rfl rfl rfl) rfl rfl hF (v_move hF rfl rfl) fun a hF => ?_
  refine fr_pure (hF.want rfl rfl rfl rfl) rfl rfl hF (v_move hF rfl rfl) fun a hF => ?_
  refine fr_pure (hF.want rfl rfl rfl rfl) rfl rfl hF (v_lss (b := false) hF rfl rfl rfl (decide_eq_false (by omega))) fun a hF => ?_
  refine fr_pure (hF.want rfl rfl rfl rfl) rfl rfl hF (v_pick hF rfl rfl rfl) fun a hF => ?_
  refine fr_pure (want0 rfl) rfl rfl hF (v_pick hF rfl rfl rfl) fun a hF => ?_
  refine fr_pure (want0 rfl) rfl rfl hF (v_move hF rfl rfl) fun a hF => ?_
  refine fr_pure (hF.want rfl rfl rfl rfl) rfl rfl hF (v_move hF rfl rfl) fun a hF => ?_
  refine fr_pure (hF.want rfl rfl rfl rfl) rfl rfl hF (v_move hF rfl rfl) fun a hF => ?_
  refine fr_pure (hF.want rfl rfl rfl rfl) rfl rfl hF (v_eql (b := false) hF rfl rfl rfl (decide_eq_false (by omega))) fun a hF => ?_
  refine fr_pure (hF.want rfl rfl rfl rfl) rfl rfl hF (v_move hF rfl rfl) fun a hF => ?_
  refine fr_skip (hF.skip rfl rfl rfl rfl rfl) rfl rfl hF fun a hF => ?_
  refine fr_skip (hF.skip rfl rfl rfl rfl rfl) rfl rfl hF fun a hF => ?_
  refine fr_skip (hF.skip rfl rfl rfl rfl rfl) rfl rfl hF fun a hF => ?_
  refine fr_pure (hF.want rfl rfl rfl rfl) rfl rfl hF (v_pick hF rfl rfl rfl) fun a hF => ?_
  refine fr_pure (want0 rfl) rfl rfl hF (v_pick hF rfl rfl rfl) fun a hF => ?_
  refine fr_pure (want0 rfl) rfl rfl hF (v_move hF rfl rfl) fun a hF => ?_
  refine fr_pure (hF.want rfl rfl rfl rfl) rfl rfl hF (v_move hF rfl rfl) fun a hF => ?_
  refine fr_pure (hF.want rfl rfl rfl rfl) rfl rfl hF (v_move hF rfl rfl) fun a hF => ?_
  refine fv_call2 (hF.want rfl rfl rfl rfl) rfl rfl rfl hF rfl rfl good22 hS (k_spec_HasNumber (hS.get 3 rfl) (e)) fun a w hF hS => ?_
  refine fr_pure (hF.want rfl rfl rfl rfl) rfl rfl hF (v_move hF rfl rfl) fun a hF => ?_
  refine fr_pure (hF.want rfl rfl rfl rfl) rfl rfl hF (v_neqB (p := false) hF rfl rfl rfl (by simp)) fun a hF => ?_
  refine fr_pure (want0 rfl) rfl rfl hF (v_pick hF rfl rfl rfl) fun a hF => ?_
  exact wpList_nil (hq a w (hF.sub ⟨rfl, rfl, rfl, rfl, rfl, rfl, rfl, rfl, rfl, rfl, rfl, rfl, rfl, trivial⟩) (hS.pick [0, 1, 2, 3] rfl))
theorem rg71c {v0 v1 v5 v48 : Value} {code more ss : List Int} {xs : List S43} {b q c dd : Nat} {a_ s_ : Int} {i r : Nat} {fa : Int} {fb : Bool} {Q : Exit → Act → World → Prop} {w0 w : World} {a : Act} (hF : Fr 639 a [(0, v0), (1, v1), (5, v5), (35, .int .i64 ((c : Int))), (36, .int .i64 ((b : Int))), (37, .int .i64 ((q : Int))), (39, .int .i64 ((dd : Int))), (43, .int .i64 (a_)), (44, .int .i64 (s_)), (48, v48), (50, .int .i64 ((r : Int))), (51, .int .i64 ((i : Int))), (52, .int .i64 (fa)), (53, .bool fb)]) (hS : St w0 w [.b v0 code, .b v1 more, .d v5 xs, .n v48 ss]) (e : Evn (fun k => spec_HasNumber.f k ss (i : Int)) fb) (h : fa ≠ s_) (h2 : fa ≤ s_) (h3 : ¬ (i : Int) = a_)
    (hq : ∀ a' w', Fr 639 a' [(0, v0), (1, v1), (5, v5), (35, .int .i64 ((c : Int))), (36, .int .i64 ((b : Int))), (37, .int .i64 ((q : Int))), (39, .int .i64 ((dd : Int))), (43, .int .i64 (a_)), (44, .int .i64 (s_)), (48, v48), (50, .int .i64 ((r : Int))), (51, .int .i64 ((i : Int))), (576, .bool false)] → St w0 w' [.b v0 code, .b v1 more, .d v5 xs, .n v48 ss] → Q .normal a' w') : (Code.region 71 (opsOf Tryz.f3 71) false).wp Tryz.prog Q a w := by
  conv => arg 2; arg 2; whnf
  refine wp_region_list ?_
  refine fr_pure (want0 rfl) rfl rfl hF (v_move hF rfl rfl) fun a hF => ?_
  refine fr_pure (want0 rfl) rfl rfl hF (v_move hF rfl rfl) fun a hF => ?_
  refine fr_pure (want0 rfl) rfl rfl hF (v_gtr (b := false) hF rfl rfl rfl (decide_eq_false (by omega))) fun a hF => ?_
  refine fr_pure (want0 rfl) rfl rfl hF (v_move hF rfl rfl) fun a hF => ?_
  refine fr_pure (hF.want rfl rfl rfl rfl) rfl rfl hF (v_move hF rfl rfl) fun a hF => ?_
  refine fr_pure (hF.want rfl rfl rfl rfl) rfl rfl hF (v_move hF rfl rfl) fun a hF => ?_
  refine fr_pure (hF.want rfl rfl rfl rfl) rfl rfl hF (v_eql (b := false) hF rfl rfl rfl (decide_eq_false (by omega))) fun a hF => ?_
  refine fr_pure (hF.want rfl rfl rfl rfl) rfl rfl hF (v_move hF rfl rfl) fun a hF => ?_
  refine fr_skip (hF.skip rfl rfl rfl rfl rfl) rfl rfl hF fun a hF => ?_
  refine fr_skip (hF.skip rfl rfl rfl rfl rfl) rfl rfl hF fun a hF => ?_
  refine fr_skip (hF.skip rfl rfl rfl rfl rfl) rfl rfl hF fun a hF => ?_
  refine fr_pure (hF.want rfl rfl rfl rfl) rfl rfl hF (v_pick hF rfl rfl rfl) fun a hF => ?_
  refine fr_pure (want0 rfl) rfl rfl hF (v_pick hF rfl rfl rfl) fun a hF => ?_
  refine fr_pure (want0 rfl) rfl rfl hF (v_move hF rfl rfl) fun a hF => ?_
  refine fr_pure (hF.want rfl rfl rfl rfl) rfl rfl hF (v_move hF rfl rfl) fun a hF => ?_
  refine fr_pure (hF.want rfl rfl rfl rfl) rfl rfl hF (v_move hF rfl rfl) fun a hF => ?_
  refine fr_pure (hF.want rfl rfl rfl rfl) rfl rfl hF (v_eql (b := false) hF rfl rfl rfl (decide_eq_false (by omega))) fun a hF => ?_
  refine fr_pure (hF.want rfl rfl rfl rfl) rfl rfl hF (v_move hF rfl rfl) fun a hF => ?_
  refine fr_skip (hF.skip rfl rfl rfl rfl rfl) rfl rfl hF fun a hF => ?_
  refine fr_skip (hF.skip rfl rfl rfl rfl rfl) rfl rfl hF fun a hF => ?_
  refine fr_skip (hF.skip rfl rfl rfl rfl rfl) rfl rfl hF fun a hF => ?_
  refine fr_pure (hF.want rfl rfl rfl rfl) rfl rfl hF (v_pick hF rfl rfl rfl) fun a hF => ?_
  refine fr_pure (want0 rfl) rfl rfl hF (v_pick hF rfl rfl rfl) fun a hF => ?_
  refine fr_pure (want0 rfl) rfl rfl hF (v_move hF rfl rfl) fun a hF => ?_
  refine fr_pure (hF.want rfl rfl rfl rfl) rfl rfl hF (v_move hF rfl rfl) fun a hF => ?_
  refine fr_pure (hF.want rfl rfl rfl rfl) rfl rfl hF (v_move hF rfl rfl) fun a hF => ?_
  refine fv_call2 (hF.want rfl rfl rfl rfl) rfl rfl rfl hF rfl rfl good22 hS (k_spec_HasNumber (hS.get 3 rfl) (e)) fun a w hF hS => ?_
  refine fr_pure (hF.want rfl rfl rfl rfl) rfl rfl hF (v_move hF rfl rfl) fun a hF => ?_
  refine fr_pure (hF.want rfl rfl rfl rfl) rfl rfl hF (v_neqB (p := false) hF rfl rfl rfl (by simp)) fun a hF => ?_
  refine fr_pure (want0 rfl) rfl rfl hF (v_pick hF rfl rfl rfl) fun a hF => ?_
  exact wpList_nil (hq a w (hF.sub ⟨rfl, rfl, rfl, rfl, rfl, rfl, rfl, rfl, rfl, rfl, rfl, rfl, rfl, trivial⟩) (hS.pick [0, 1, 2, 3] rfl))
end Go.Proofs.YtibpndhcijmhpaaGreatDoor.B
