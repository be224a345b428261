/- The law's body, region by region: sums, the days' loop. Printed by a program of this session. -/
import Derived.Test.YtibpndhcijmhpaaGreatDoorGc
namespace Go.Proofs.YtibpndhcijmhpaaGreatDoor.B
open Go.RowKit Go.Proofs.YtibpndhcijmhpaaGreatDoorW.PrintLast Go.Proofs.YtibpndhcijmhpaaGreatDoorW.PrintWords Go.Proofs.YtibpndhcijmhpaaGreatDoor.QG
set_option linter.unusedSimpArgs false
set_option linter.unusedVariables false
set_option maxRecDepth 100000
theorem rg16 {v0 v1 v5 v6 v13 v17 v21 : Value} {code more ps gs hs cs : List Int} {xs : List S43} {start cut : Int} {Q : Exit → Act → World → Prop} {w0 w : World} {a : Act} (hF : Fr 639 a [(0, v0), (1, v1), (5, v5), (6, v6), (7, .int .i64 (start)), (8, .int .i64 (cut)), (13, v13), (17, v17), (21, v21)]) (hS : St w0 w [.b v0 code, .b v1 more, .d v5 xs, .n v6 ps, .n v13 gs, .n v17 hs, .n v21 cs])
    (hq : ∀ a' w', Fr 639 a' [(0, v0), (1, v1), (5, v5), (6, v6), (7, .int .i64 (start)), (8, .int .i64 (cut)), (13, v13), (17, v17), (21, v21), (23, .int .i64 (start))] → St w0 w' [.b v0 code, .b v1 more, .d v5 xs, .n v6 ps, .n v13 gs, .n v17 hs, .n v21 cs] → Q .normal a' w') : (Code.region 16 (opsOf Tryz.f3 16) false).wp Tryz.prog Q a w := by
  conv => arg 2; arg 2; whnf
  refine wp_region_list ?_
  refine fr_pure (want0 rfl) rfl rfl hF (v_move hF rfl rfl) fun a hF => ?_
  refine fr_pure (want0 rfl) rfl rfl hF (v_assign hF rfl rfl) fun a hF => ?_
  exact wpList_nil (hq a w (hF.sub ⟨rfl, rfl, rfl, rfl, rfl, rfl, rfl, rfl, rfl, rfl, trivial⟩) (hS.pick [0, 1, 2, 3, 4, 5, 6] rfl))
theorem rg17a {v0 v1 v5 v6 v13 v17 v21 : Value} {code more ps gs hs cs : List Int} {xs : List S43} {start cut : Int} {Q : Exit → Act → World → Prop} {w0 w : World} {a : Act} (hF : Fr 639 a [(0, v0), (1, v1), (5, v5), (6, v6), (7, .int .i64 (start)), (8, .int .i64 (cut)), (13, v13), (17, v17), (21, v21), (23, .int .i64 (start))]) (hS : St w0 w [.b v0 code, .b v1 more, .d v5 xs, .n v6 ps, .n v13 gs, .n v17 hs, .n v21 cs]) (c : 0 < hs.length)
    (hq : ∀ a' w', Fr 639 a' [(0, v0), (1, v1), (5, v5), (6, v6), (7, .int .i64 (start)), (8, .int .i64 (cut)), (13, v13), (17, v17), (21, v21), (23, .int .i64 (start)), (222, .bool true)] → St w0 w' [.b v0 code, .b v1 more, .d v5 xs, .n v6 ps, .n v13 gs, .n v17 hs, .n v21 cs] → Q .normal a' w') : (Code.region 17 (opsOf Tryz.f3 17) false).wp Tryz.prog Q a w := by
  conv => arg 2; arg 2; whnf
  refine wp_region_list ?_
  refine fr_pure (want0 rfl) rfl rfl hF (v_move hF rfl rfl) fun a hF => ?_
  refine fr_pure (want0 rfl) rfl rfl hF (v_len26 hF rfl rfl (hS.get 5 rfl)) fun a hF => ?_
  refine fr_pure (want0 rfl) rfl rfl hF (v_gtr (b := true) hF rfl rfl rfl (decide_eq_true (by omega))) fun a hF => ?_
  exact wpList_nil (hq a w (hF.sub ⟨rfl, rfl, rfl, rfl, rfl, rfl, rfl, rfl, rfl, rfl, rfl, trivial⟩) (hS.pick [0, 1, 2, 3, 4, 5, 6] rfl))
theorem rg17b {v0 v1 v5 v6 v13 v17 v21 : Value} {code more ps gs hs cs : List Int} {xs : List S43} {start cut : Int} {Q : Exit → Act → World → Prop} {w0 w : World} {a : Act} (hF : Fr 639 a [(0, v0), (1, v1), (5, v5), (6, v6), (7, .int .i64 (start)), (8, .int .i64 (cut)), (13, v13), (17, v17), (21, v21), (23, .int .i64 (start))]) (hS : St w0 w [.b v0 code, .b v1 more, .d v5 xs, .n v6 ps, .n v13 gs, .n v17 hs, .n v21 cs]) (c : ¬ 0 < hs.length)
    (hq : ∀ a' w', Fr 639 a' [(0, v0), (1, v1), (5, v5), (6, v6), (7, .int .i64 (start)), (8, .int .i64 (cut)), (13, v13), (17, v17), (21, v21), (23, .int .i64 (start)), (222, .bool false)] → St w0 w' [.b v0 code, .b v1 more, .d v5 xs, .n v6 ps, .n v13 gs, .n v17 hs, .n v21 cs] → Q .normal a' w') : (Code.region 17 (opsOf Tryz.f3 17) false).wp Tryz.prog Q a w := by
  conv => arg 2; arg 2; whnf
  refine wp_region_list ?_
  refine fr_pure (want0 rfl) rfl rfl hF (v_move hF rfl rfl) fun a hF => ?_
  refine fr_pure (want0 rfl) rfl rfl hF (v_len26 hF rfl rfl (hS.get 5 rfl)) fun a hF => ?_
  refine fr_pure (want0 rfl) rfl rfl hF (v_gtr (b := false) hF rfl rfl rfl (decide_eq_false (by omega))) fun a hF => ?_
  exact wpList_nil (hq a w (hF.sub ⟨rfl, rfl, rfl, rfl, rfl, rfl, rfl, rfl, rfl, rfl, rfl, trivial⟩) (hS.pick [0, 1, 2, 3, 4, 5, 6] rfl))
theorem rg18 {v0 v1 v5 v6 v13 v17 v21 : Value} {code more ps gs hs cs : List Int} {xs : List S43} {start cut : Int} {Q : Exit → Act → World → Prop} {w0 w : World} {a : Act} (hF : Fr 639 a [(0, v0), (1, v1), (5, v5), (6, v6), (7, .int .i64 (start)), (8, .int .i64 (cut)), (13, v13), (17, v17), (21, v21), (23, .int .i64 (start))]) (hS : St w0 w [.b v0 code, .b v1 more, .d v5 xs, .n v6 ps, .n v13 gs, .n v17 hs, .n v21 cs]) (c : 0 < hs.length) (c2 : hs.length ≤ 100)
    (hq : ∀ a' w', Fr 639 a' [(0, v0), (1, v1), (5, v5), (6, v6), (7, .int .i64 (start)), (8, .int .i64 (cut)), (13, v13), (17, v17), (21, v21), (23, .int .i64 (rd hs (((hs.length - 1 : Nat) : Int))))] → St w0 w' [.b v0 code, .b v1 more, .d v5 xs, .n v6 ps, .n v13 gs, .n v17 hs, .n v21 cs] → Q .normal a' w') : (Code.region 18 (opsOf Tryz.f3 18) false).wp Tryz.prog Q a w := by
  conv => arg 2; arg 2; whnf
  refine wp_region_list ?_
  refine fr_pure (want0 rfl) rfl rfl hF (v_move hF rfl rfl) fun a hF => ?_
  refine fr_pure (want0 rfl) rfl rfl hF (v_move hF rfl rfl) fun a hF => ?_
  refine fr_pure (want0 rfl) rfl rfl hF (v_len26 hF rfl rfl (hS.get 5 rfl)) fun a hF => ?_
  refine fr_pure (want0 rfl) rfl rfl hF (v_sub (r := ((hs.length - 1 : Nat) : Int)) hF rfl rfl rfl (by rw [wrap64_in (by omega) (by omega)]; omega)) fun a hF => ?_
  refine fr_pure (want0 rfl) rfl rfl hF (v_index26 hF rfl rfl rfl (hS.get 5 rfl) (by omega) (by omega)) fun a hF => ?_
  refine fr_pure (want0 rfl) rfl rfl hF (v_load2 (i := ((hs.length - 1 : Nat) : Int)) hF rfl rfl (hS.get 5 rfl) (by omega) (by omega)) fun a hF => ?_
  refine fr_pure (want0 rfl) rfl rfl hF (v_assign hF rfl rfl) fun a hF => ?_
  exact wpList_nil (hq a w (hF.sub ⟨rfl, rfl, rfl, rfl, rfl, rfl, rfl, rfl, rfl, rfl, trivial⟩) (hS.pick [0, 1, 2, 3, 4, 5, 6] rfl))
theorem rg19 {v0 v1 v5 v6 v13 v17 v21 : Value} {code more ps gs hs cs : List Int} {xs : List S43} {start cut : Int} {en sc sg : Int} {Q : Exit → Act → World → Prop} {w0 w : World} {a : Act} (hF : Fr 639 a [(0, v0), (1, v1), (5, v5), (6, v6), (7, .int .i64 (start)), (8, .int .i64 (cut)), (13, v13), (17, v17), (21, v21), (23, .int .i64 (en))]) (hS : St w0 w [.b v0 code, .b v1 more, .d v5 xs, .n v6 ps, .n v13 gs, .n v17 hs, .n v21 cs]) (e1 : Evn (fun k => spec_SumOf.f k cs) sc) (e2 : Evn (fun k => spec_SumOf.f k gs) sg) (he : en + sc = start + sg)
    (hq : ∀ a' w', Fr 639 a' [(0, v0), (1, v1), (5, v5), (6, v6), (8, .int .i64 (cut)), (13, v13), (17, v17), (21, v21), (237, .bool false)] → St w0 w' [.b v0 code, .b v1 more, .d v5 xs, .n v6 ps, .n v13 gs, .n v17 hs, .n v21 cs] → Q .normal a' w') : (Code.region 19 (opsOf Tryz.f3 19) false).wp Tryz.prog Q a w := by
  conv => arg 2; arg 2; whnf
  refine wp_region_list ?_
  refine fr_pure (want0 rfl) rfl rfl hF (v_move hF rfl rfl) fun a hF => ?_
  refine fr_pure (want0 rfl) rfl rfl hF (v_move hF rfl rfl) fun a hF => ?_
  refine fv_call1 (want0 rfl) rfl rfl rfl hF rfl good20 hS (k_spec_SumOf (hS.get 6 rfl) (e1)) fun a w hF hS => ?_
  refine fr_pure (want0 rfl) rfl rfl hF (v_add (r := wrap64 (en + sc)) hF rfl rfl rfl (rfl)) fun a hF => ?_
  refine fr_pure (want0 rfl) rfl rfl hF (v_move hF rfl rfl) fun a hF => ?_
  refine fr_pure (want0 rfl) rfl rfl hF (v_move hF rfl rfl) fun a hF => ?_
  refine fv_call1 (want0 rfl) rfl rfl rfl hF rfl good20 hS (k_spec_SumOf (hS.get 4 rfl) (e2)) fun a w hF hS => ?_
  refine fr_pure (want0 rfl) rfl rfl hF (v_add (r := wrap64 (start + sg)) hF rfl rfl rfl (rfl)) fun a hF => ?_
  refine fr_pure (want0 rfl) rfl rfl hF (v_neq (b := false) hF rfl rfl rfl (by rw [he]; exact decide_eq_false (fun h => h rfl))) fun a hF => ?_
  exact wpList_nil (hq a w (hF.sub ⟨rfl, rfl, rfl, rfl, rfl, rfl, rfl, rfl, rfl, trivial⟩) (hS.pick [0, 1, 2, 3, 4, 5, 6] rfl))
theorem rg21 {v0 v1 v5 v6 v13 v17 v21 : Value} {code more ps gs hs cs : List Int} {xs : List S43} {cut : Int} {Q : Exit → Act → World → Prop} {w0 w : World} {a : Act} (hF : Fr 639 a [(0, v0), (1, v1), (5, v5), (6, v6), (8, .int .i64 (cut)), (13, v13), (17, v17), (21, v21)]) (hS : St w0 w [.b v0 code, .b v1 more, .d v5 xs, .n v6 ps, .n v13 gs, .n v17 hs, .n v21 cs])
    (hq : ∀ a' w', Fr 639 a' [(0, v0), (1, v1), (5, v5), (6, v6), (8, .int .i64 (cut)), (13, v13), (17, v17), (21, v21), (24, .int .i64 (0))] → St w0 w' [.b v0 code, .b v1 more, .d v5 xs, .n v6 ps, .n v13 gs, .n v17 hs, .n v21 cs] → Q .normal a' w') : (Code.region 21 (opsOf Tryz.f3 21) false).wp Tryz.prog Q a w := by
  conv => arg 2; arg 2; whnf
  refine wp_region_list ?_
  refine fr_pure (want0 rfl) rfl rfl hF (v_assign hF rfl rfl) fun a hF => ?_
  exact wpList_nil (hq a w (hF.sub ⟨rfl, rfl, rfl, rfl, rfl, rfl, rfl, rfl, rfl, trivial⟩) (hS.pick [0, 1, 2, 3, 4, 5, 6] rfl))
theorem rg22a {v0 v1 v5 v6 v13 v17 v21 : Value} {code more ps gs hs cs : List Int} {xs : List S43} {cut : Int} {i : Nat} {Q : Exit → Act → World → Prop} {w0 w : World} {a : Act} (hF : Fr 639 a [(0, v0), (1, v1), (5, v5), (6, v6), (8, .int .i64 (cut)), (13, v13), (17, v17), (21, v21), (24, .int .i64 ((i : Int)))]) (hS : St w0 w [.b v0 code, .b v1 more, .d v5 xs, .n v6 ps, .n v13 gs, .n v17 hs, .n v21 cs]) (c : i < xs.length)
    (hq : ∀ a' w', Fr 639 a' [(0, v0), (1, v1), (5, v5), (6, v6), (8, .int .i64 (cut)), (13, v13), (17, v17), (21, v21), (24, .int .i64 ((i : Int))), (241, .bool true)] → St w0 w' [.b v0 code, .b v1 more, .d v5 xs, .n v6 ps, .n v13 gs, .n v17 hs, .n v21 cs] → Q .normal a' w') : (Code.region 22 (opsOf Tryz.f3 22) false).wp Tryz.prog Q a w := by
  conv => arg 2; arg 2; whnf
  refine wp_region_list ?_
  refine fr_pure (want0 rfl) rfl rfl hF (v_move hF rfl rfl) fun a hF => ?_
  refine fr_pure (want0 rfl) rfl rfl hF (v_move hF rfl rfl) fun a hF => ?_
  refine fr_pure (want0 rfl) rfl rfl hF (v_len24 hF rfl rfl (hS.get 2 rfl)) fun a hF => ?_
  refine fr_pure (want0 rfl) rfl rfl hF (v_lss (b := true) hF rfl rfl rfl (decide_eq_true (by omega))) fun a hF => ?_
  exact wpList_nil (hq a w (hF.sub ⟨rfl, rfl, rfl, rfl, rfl, rfl, rfl, rfl, rfl, rfl, trivial⟩) (hS.pick [0, 1, 2, 3, 4, 5, 6] rfl))
theorem rg22b {v0 v1 v5 v6 v13 v17 v21 : Value} {code more ps gs hs cs : List Int} {xs : List S43} {cut : Int} {i : Nat} {Q : Exit → Act → World → Prop} {w0 w : World} {a : Act} (hF : Fr 639 a [(0, v0), (1, v1), (5, v5), (6, v6), (8, .int .i64 (cut)), (13, v13), (17, v17), (21, v21), (24, .int .i64 ((i : Int)))]) (hS : St w0 w [.b v0 code, .b v1 more, .d v5 xs, .n v6 ps, .n v13 gs, .n v17 hs, .n v21 cs]) (c : ¬ i < xs.length)
    (hq : ∀ a' w', Fr 639 a' [(0, v0), (1, v1), (5, v5), (6, v6), (8, .int .i64 (cut)), (13, v13), (17, v17), (21, v21), (24, .int .i64 ((i : Int))), (241, .bool false)] → St w0 w' [.b v0 code, .b v1 more, .d v5 xs, .n v6 ps, .n v13 gs, .n v17 hs, .n v21 cs] → Q .normal a' w') : (Code.region 22 (opsOf Tryz.f3 22) false).wp Tryz.prog Q a w := by
  conv => arg 2; arg 2; whnf
  refine wp_region_list ?_
  refine fr_pure (want0 rfl) rfl rfl hF (v_move hF rfl rfl) fun a hF => ?_
  refine fr_pure (want0 rfl) rfl rfl hF (v_move hF rfl rfl) fun a hF => ?_
  refine fr_pure (want0 rfl) rfl rfl hF (v_len24 hF rfl rfl (hS.get 2 rfl)) fun a hF => ?_
  refine fr_pure (want0 rfl) rfl rfl hF (v_lss (b := false) hF rfl rfl rfl (decide_eq_false (by omega))) fun a hF => ?_
  exact wpList_nil (hq a w (hF.sub ⟨rfl, rfl, rfl, rfl, rfl, rfl, rfl, rfl, rfl, rfl, trivial⟩) (hS.pick [0, 1, 2, 3, 4, 5, 6] rfl))
theorem rg24 {v0 v1 v5 v6 v13 v17 v21 : Value} {code more ps gs hs cs : List Int} {xs : List S43} {cut : Int} {i : Nat} {Q : Exit → Act → World → Prop} {w0 w : World} {a : Act} (hF : Fr 639 a [(0, v0), (1, v1), (5, v5), (6, v6), (8, .int .i64 (cut)), (13, v13), (17, v17), (21, v21), (24, .int .i64 ((i : Int)))]) (hS : St w0 w [.b v0 code, .b v1 more, .d v5 xs, .n v6 ps, .n v13 gs, .n v17 hs, .n v21 cs]) (c : i < xs.length) (hd : DayIn (rd_T43 xs (i : Int)))
    (hq : ∀ a' w', Fr 639 a' [(0, v0), (1, v1), (5, v5), (6, v6), (8, .int .i64 (cut)), (13, v13), (17, v17), (21, v21), (24, .int .i64 ((i : Int))), (25, .int .i64 (gr (rd_T43 xs (i : Int)))), (26, .int .i64 (0))] → St w0 w' [.b v0 code, .b v1 more, .d v5 xs, .n v6 ps, .n v13 gs, .n v17 hs, .n v21 cs] → Q .normal a' w') : (Code.region 24 (opsOf Tryz.f3 24) false).wp Tryz.prog Q a w := by
  conv => arg 2; arg 2; whnf
  refine wp_region_list ?_
  refine fr_pure (want0 rfl) rfl rfl hF (v_move hF rfl rfl) fun a hF => ?_
  refine fr_pure (want0 rfl) rfl rfl hF (v_move hF rfl rfl) fun a hF => ?_
  refine fr_pure (want0 rfl) rfl rfl hF (v_index24 hF rfl rfl rfl (hS.get 2 rfl) (by omega) (by omega)) fun a hF => ?_
  refine fr_pure (want0 rfl) rfl rfl hF (v_load43 (i := (i : Int)) hF rfl rfl (hS.get 2 rfl) (by omega) (by omega)) fun a hF => ?_
  refine fv_call1 (want0 rfl) rfl rfl rfl hF rfl good21 hS (k_impl_GrowthOf  (GrowthOf_is hd)) fun a w hF hS => ?_
  refine fr_pure (want0 rfl) rfl rfl hF (v_move hF rfl rfl) fun a hF => ?_
  refine fr_pure (want0 rfl) rfl rfl hF (v_extract hF rfl rfl rfl) fun a hF => ?_
  refine fr_pure (want0 rfl) rfl rfl hF (v_extract hF rfl rfl rfl) fun a hF => ?_
  refine fr_pure (want0 rfl) rfl rfl hF (v_assign hF rfl rfl) fun a hF => ?_
  refine fr_pure (want0 rfl) rfl rfl hF (v_assign hF rfl rfl) fun a hF => ?_
  exact wpList_nil (hq a w (hF.sub ⟨rfl, rfl, rfl, rfl, rfl, rfl, rfl, rfl, rfl, rfl, rfl, trivial⟩) (hS.pick [0, 1, 2, 3, 4, 5, 6] rfl))
theorem rg25 {v0 v1 v5 v6 v13 v17 v21 : Value} {code more ps gs hs cs : List Int} {xs : List S43} {cut : Int} {i : Nat} {Q : Exit → Act → World → Prop} {w0 w : World} {a : Act} (hF : Fr 639 a [(0, v0), (1, v1), (5, v5), (6, v6), (8, .int .i64 (cut)), (13, v13), (17, v17), (21, v21), (24, .int .i64 ((i : Int))), (25, .int .i64 (gr (rd_T43 xs (i : Int)))), (26, .int .i64 (0))]) (hS : St w0 w [.b v0 code, .b v1 more, .d v5 xs, .n v6 ps, .n v13 gs, .n v17 hs, .n v21 cs]) (c : i < xs.length) (hg : gs.length = xs.length) (hd : DayIn (rd_T43 xs (i : Int))) (ho : rd gs (i : Int) = gr (rd_T43 xs (i : Int)))
    (hq : ∀ a', Fr 639 a' [(0, v0), (1, v1), (5, v5), (6, v6), (8, .int .i64 (cut)), (13, v13), (17, v17), (21, v21), (24, .int .i64 ((i : Int))), (25, .int .i64 (gr (rd_T43 xs (i : Int)))), (281, .bool false)] → St w0 { w with drawn := w.drawn + 1 } [.b v0 code, .b v1 more, .d v5 xs, .n v6 ps, .n v13 gs, .n v17 hs, .n v21 cs] → Q .normal a' { w with drawn := w.drawn + 1 }) : (Code.region 25 (opsOf Tryz.f3 25) true).wp Tryz.prog Q a w := by
  conv => arg 2; arg 2; whnf
  replace hS := hS.drew
  refine wp_region_still (by kernel_rfl) (by kernel_rfl) ?_
  refine fs_pure (want0 rfl) rfl rfl hF (v_move hF rfl rfl) fun a hF => ?_
  refine fs_pure (want0 rfl) rfl rfl hF (v_neq (b := false) hF rfl rfl rfl (by simp)) fun a hF => ?_
  refine fs_pure (want0 rfl) rfl rfl hF (v_move hF rfl rfl) fun a hF => ?_
  refine fs_pure (hF.want rfl rfl rfl rfl) rfl rfl hF (v_move hF rfl rfl) fun a hF => ?_
  refine fs_pure (hF.want rfl rfl rfl rfl) rfl rfl hF (v_move hF rfl rfl) fun a hF => ?_
  refine fs_pure (hF.want rfl rfl rfl rfl) rfl rfl hF (v_move hF rfl rfl) fun a hF => ?_
  refine fs_pure (hF.want rfl rfl rfl rfl) rfl rfl hF (v_index26 hF rfl rfl rfl (hS.get 4 rfl) (by omega) (by omega)) fun a hF => ?_
  refine fs_pure (hF.want rfl rfl rfl rfl) rfl rfl hF (v_load2 (i := (i : Int)) hF rfl rfl (hS.get 4 rfl) (by omega) (by omega)) fun a hF => ?_
  refine fs_pure (hF.want rfl rfl rfl rfl) rfl rfl hF (v_neq (b := false) hF rfl rfl rfl (by simp [ho])) fun a hF => ?_
  refine fs_pure (want0 rfl) rfl rfl hF (v_pick hF rfl rfl rfl) fun a hF => ?_
  refine fs_pure (want0 rfl) rfl rfl hF (v_move hF rfl rfl) fun a hF => ?_
  refine fs_pure (hF.want rfl rfl rfl rfl) rfl rfl hF (v_move hF rfl rfl) fun a hF => ?_
  refine fs_pure (hF.want rfl rfl rfl rfl) rfl rfl hF (v_move hF rfl rfl) fun a hF => ?_
  refine fs_pure (hF.want rfl rfl rfl rfl) rfl rfl hF (v_move hF rfl rfl) fun a hF => ?_
  refine fs_pure (hF.want rfl rfl rfl rfl) rfl rfl hF (v_index24 hF rfl rfl rfl (hS.get 2 rfl) (by omega) (by omega)) fun a hF => ?_
  refine fs_pure (hF.want rfl rfl rfl rfl) rfl rfl hF (v_field0 hF rfl rfl (hS.get 2 rfl) (by omega)) fun a hF => ?_
  refine fs_pure (hF.want rfl rfl rfl rfl) rfl rfl hF (v_load41a (i := (i : Int)) hF rfl rfl (hS.get 2 rfl) (by omega) (by omega)) fun a hF => ?_
  refine fs_pure (hF.want rfl rfl rfl rfl) rfl rfl hF (v_conv (r := wrap64 (rd_T43 xs (i : Int)).f0) hF rfl rfl (rfl)) fun a hF => ?_
  refine fs_pure (hF.want rfl rfl rfl rfl) rfl rfl hF (v_quo (r := wrap64 (Int.tdiv (wrap64 (rd_T43 xs (i : Int)).f0) 10)) hF rfl rfl rfl (by decide) (rfl)) fun a hF => ?_
  refine fs_pure (hF.want rfl rfl rfl rfl) rfl rfl hF (v_add (r := wrap64 (wrap64 (Int.tdiv (wrap64 (rd_T43 xs (i : Int)).f0) 10) + 1)) hF rfl rfl rfl (rfl)) fun a hF => ?_
  refine fs_pure (hF.want rfl rfl rfl rfl) rfl rfl hF (v_move hF rfl rfl) fun a hF => ?_
  refine fs_pure (hF.want rfl rfl rfl rfl) rfl rfl hF (v_move hF rfl rfl) fun a hF => ?_
  refine fs_pure (hF.want rfl rfl rfl rfl) rfl rfl hF (v_index24 hF rfl rfl rfl (hS.get 2 rfl) (by omega) (by omega)) fun a hF => ?_
  refine fs_pure (hF.want rfl rfl rfl rfl) rfl rfl hF (v_field1 hF rfl rfl (hS.get 2 rfl) (by omega)) fun a hF => ?_
  refine fs_pure (hF.want rfl rfl rfl rfl) rfl rfl hF (v_load41b (i := (i : Int)) hF rfl rfl (hS.get 2 rfl) (by omega) (by omega)) fun a hF => ?_
  refine fs_pure (hF.want rfl rfl rfl rfl) rfl rfl hF (v_conv (r := wrap64 (rd_T43 xs (i : Int)).f1) hF rfl rfl (rfl)) fun a hF => ?_
  refine fs_pure (hF.want rfl rfl rfl rfl) rfl rfl hF (v_quo (r := wrap64 (Int.tdiv (wrap64 (rd_T43 xs (i : Int)).f1) 10)) hF rfl rfl rfl (by decide) (rfl)) fun a hF => ?_
  refine fs_pure (hF.want rfl rfl rfl rfl) rfl rfl hF (v_mul (r := gr (rd_T43 xs (i : Int))) hF rfl rfl rfl (gr_text hd)) fun a hF => ?_
  refine fs_pure (hF.want rfl rfl rfl rfl) rfl rfl hF (v_neq (b := false) hF rfl rfl rfl (by simp)) fun a hF => ?_
  refine fs_pure (want0 rfl) rfl rfl hF (v_pick hF rfl rfl rfl) fun a hF => ?_
  exact wpStill_nil (hq a (hF.sub ⟨rfl, rfl, rfl, rfl, rfl, rfl, rfl, rfl, rfl, rfl, rfl, trivial⟩) (hS.pick [0, 1, 2, 3, 4, 5, 6] rfl))
theorem rg27a {v0 v1 v5 v6 v13 v17 v21 : Value} {code more ps gs hs cs : List Int} {xs : List S43} {cut : Int} {i : Nat} {Q : Exit → Act → World → Prop} {w0 w : World} {a : Act} (hF : Fr 639 a [(0, v0), (1, v1), (5, v5), (6, v6), (8, .int .i64 (cut)), (13, v13), (17, v17), (21, v21), (24, .int .i64 ((i : Int))), (25, .int .i64 (gr (rd_T43 xs (i : Int))))]) (hS : St w0 w [.b v0 code, .b v1 more, .d v5 xs, .n v6 ps, .n v13 gs, .n v17 hs, .n v21 cs]) (c : i < xs.length) (hh : hs.length = xs.length) (e : Evn (fun k => spec_HasNumber.f k ps (i : Int)) true) (k0 : 0 ≤ cut) (k1 : cut ≤ 200) (g0 : 0 ≤ gr (rd_T43 xs (i : Int))) (g1 : gr (rd_T43 xs (i : Int)) ≤ 12) (hl : rd hs (i : Int) ≤ cut + gr (rd_T43 xs (i : Int)))
    (hq : ∀ a' w', Fr 639 a' [(0, v0), (1, v1), (5, v5), (6, v6), (8, .int .i64 (cut)), (13, v13), (17, v17), (21, v21), (24, .int .i64 ((i : Int))), (294, .bool false)] → St w0 w' [.b v0 code, .b v1 more, .d v5 xs, .n v6 ps, .n v13 gs, .n v17 hs, .n v21 cs] → Q .normal a' w') : (Code.region 27 (opsOf Tryz.f3 27) false).wp Tryz.prog Q a w := by
  conv => arg 2; arg 2; whnf
  refine wp_region_list ?_
  refine fr_pure (want0 rfl) rfl rfl hF (v_move hF rfl rfl) fun a hF => ?_
  refine fr_pure (want0 rfl) rfl rfl hF (v_move hF rfl rfl) fun a hF => ?_
  refine fv_call2 (want0 rfl) rfl rfl rfl hF rfl rfl good22 hS (k_spec_HasNumber (hS.get 3 rfl) (e)) fun a w hF hS => ?_
  refine fr_pure (want0 rfl) rfl rfl hF (v_move hF rfl rfl) fun a hF => ?_
  refine fr_pure (hF.want rfl rfl rfl rfl) rfl rfl hF (v_move hF rfl rfl) fun a hF => ?_
  refine fr_pure (hF.want rfl rfl rfl rfl) rfl rfl hF (v_move hF rfl rfl) fun a hF => ?_
  refine fr_pure (hF.want rfl rfl rfl rfl) rfl rfl hF (v_index26 hF rfl rfl rfl (hS.get 5 rfl) (by omega) (by omega)) fun a hF => ?_
  refine fr_pure (hF.want rfl rfl rfl rfl) rfl rfl hF (v_load2 (i := (i : Int)) hF rfl rfl (hS.get 5 rfl) (by omega) (by omega)) fun a hF => ?_
  refine fr_pure (hF.want rfl rfl rfl rfl) rfl rfl hF (v_move hF rfl rfl) fun a hF => ?_
  refine fr_pure (hF.want rfl rfl rfl rfl) rfl rfl hF (v_move hF rfl rfl) fun a hF => ?_
  refine fr_pure (hF.want rfl rfl rfl rfl) rfl rfl hF (v_add (r := cut + gr (rd_T43 xs (i : Int))) hF rfl rfl rfl (wrap64_in (by omega) (by omega))) fun a hF => ?_
  refine fr_pure (hF.want rfl rfl rfl rfl) rfl rfl hF (v_gtr (b := false) hF rfl rfl rfl (decide_eq_false (by omega))) fun a hF => ?_
  refine fr_pure (want0 rfl) rfl rfl hF (v_pick hF rfl rfl rfl) fun a hF => ?_
  exact wpList_nil (hq a w (hF.sub ⟨rfl, rfl, rfl, rfl, rfl, rfl, rfl, rfl, rfl, rfl, trivial⟩) (hS.pick [0, 1, 2, 3, 4, 5, 6] rfl))
theorem rg27b {v0 v1 v5 v6 v13 v17 v21 : Value} {code more ps gs hs cs : List Int} {xs : List S43} {cut : Int} {i : Nat} {Q : Exit → Act → World → Prop} {w0 w : World} {a : Act} (hF : Fr 639 a [(0, v0), (1, v1), (5, v5), (6, v6), (8, .int .i64 (cut)), (13, v13), (17, v17), (21, v21), (24, .int .i64 ((i : Int))), (25, .int .i64 (gr (rd_T43 xs (i : Int))))]) (hS : St w0 w [.b v0 code, .b v1 more, .d v5 xs, .n v6 ps, .n v13 gs, .n v17 hs, .n v21 cs]) (e : Evn (fun k => spec_HasNumber.f k ps (i : Int)) false)
    (hq : ∀ a' w', Fr 639 a' [(0, v0), (1, v1), (5, v5), (6, v6), (8, .int .i64 (cut)), (13, v13), (17, v17), (21, v21), (24, .int .i64 ((i : Int))), (294, .bool false)] → St w0 w' [.b v0 code, .b v1 more, .d v5 xs, .n v6 ps, .n v13 gs, .n v17 hs, .n v21 cs] → Q .normal a' w') : (Code.region 27 (opsOf Tryz.f3 27) false).wp Tryz.prog Q a w := by
  conv => arg 2; arg 2; whnf
  refine wp_region_list ?_
  refine fr_pure (want0 rfl) rfl rfl hF (v_move hF rfl rfl) fun a hF => ?_
  refine fr_pure (want0 rfl) rfl rfl hF (v_move hF rfl rfl) fun a hF => ?_
  refine fv_call2 (want0 rfl) rfl rfl rfl hF rfl rfl good22 hS (k_spec_HasNumber (hS.get 3 rfl) (e)) fun a w hF hS => ?_
  refine fr_pure (want0 rfl) rfl rfl hF (v_move hF rfl rfl) fun a hF => ?_
  refine fr_skip (hF.skip rfl rfl rfl rfl rfl) rfl rfl hF fun a hF => ?_
  refine fr_skip (hF.skip rfl rfl rfl rfl rfl) rfl rfl hF fun a hF => ?_
  refine fr_skip (hF.skip rfl rfl rfl rfl rfl) rfl rfl hF fun a hF => ?_
  refine fr_skip (hF.skip rfl rfl rfl rfl rfl) rfl rfl hF fun a hF => ?_
  refine fr_skip (hF.skip rfl rfl rfl rfl rfl) rfl rfl hF fun a hF => ?_
  refine fr_skip (hF.skip rfl rfl rfl rfl rfl) rfl rfl hF fun a hF => ?_
  refine fr_skip (hF.skip rfl rfl rfl rfl rfl) rfl rfl hF fun a hF => ?_
  refine fr_skip (hF.skip rfl rfl rfl rfl rfl) rfl rfl hF fun a hF => ?_
  refine fr_pure (want0 rfl) rfl rfl hF (v_pick hF rfl rfl rfl) fun a hF => ?_
  exact wpList_nil (hq a w (hF.sub ⟨rfl, rfl, rfl, rfl, rfl, rfl, rfl, rfl, rfl, rfl, trivial⟩) (hS.pick [0, 1, 2, 3, 4, 5, 6] rfl))
theorem rg23 {v0 v1 v5 v6 v13 v17 v21 : Value} {code more ps gs hs cs : List Int} {xs : List S43} {cut : Int} {i : Nat} {Q : Exit → Act → World → Prop} {w0 w : World} {a : Act} (hF : Fr 639 a [(0, v0), (1, v1), (5, v5), (6, v6), (8, .int .i64 (cut)), (13, v13), (17, v17), (21, v21), (24, .int .i64 ((i : Int)))]) (hS : St w0 w [.b v0 code, .b v1 more, .d v5 xs, .n v6 ps, .n v13 gs, .n v17 hs, .n v21 cs]) (c : i ≤ 1000)
    (hq : ∀ a' w', Fr 639 a' [(0, v0), (1, v1), (5, v5), (6, v6), (8, .int .i64 (cut)), (13, v13), (17, v17), (21, v21), (24, .int .i64 (((i + 1 : Nat) : Int)))] → St w0 w' [.b v0 code, .b v1 more, .d v5 xs, .n v6 ps, .n v13 gs, .n v17 hs, .n v21 cs] → Q .normal a' w') : (Code.region 23 (opsOf Tryz.f3 23) false).wp Tryz.prog Q a w := by
  conv => arg 2; arg 2; whnf
  refine wp_region_list ?_
  refine fr_pure (want0 rfl) rfl rfl hF (v_move hF rfl rfl) fun a hF => ?_
  refine fr_pure (want0 rfl) rfl rfl hF (v_add (r := ((i + 1 : Nat) : Int)) hF rfl rfl rfl (up64 (by omega))) fun a hF => ?_
  refine fr_pure (want0 rfl) rfl rfl hF (v_assign hF rfl rfl) fun a hF => ?_
  exact wpList_nil (hq a w (hF.sub ⟨rfl, rfl, rfl, rfl, rfl, rfl, rfl, rfl, rfl, trivial⟩) (hS.pick [0, 1, 2, 3, 4, 5, 6] rfl))
end Go.Proofs.YtibpndhcijmhpaaGreatDoor.B
