/- The law's body, region by region: the calls. Printed by a program of this session. -/
import Derived.Test.YtibpndhcijmhpaaGreatDoorGc
namespace Go.Proofs.YtibpndhcijmhpaaGreatDoor.B
open Go.RowKit Go.Proofs.YtibpndhcijmhpaaGreatDoorW.PrintLast Go.Proofs.YtibpndhcijmhpaaGreatDoorW.PrintWords Go.Proofs.YtibpndhcijmhpaaGreatDoor.QG
set_option linter.unusedSimpArgs false
set_option linter.unusedVariables false
set_option maxRecDepth 100000
theorem rg0 {v0 v1 : Value} {code more : List Int} {Q : Exit → Act → World → Prop} {w0 w : World} {a : Act} (hF : Fr 639 a [(0, v0), (1, v1)]) (hS : St w0 w [.b v0 code, .b v1 more])
    (hq : ∀ a' w', Fr 639 a' [(0, v0), (1, v1)] → St w0 w' [.b v0 code, .b v1 more] → Q .normal a' w') : (Code.region 0 (opsOf Tryz.f3 0) false).wp Tryz.prog Q a w := by
  conv => arg 2; arg 2; whnf
  refine wp_region_list ?_
  refine fr_pure (want0 rfl) rfl rfl hF (v_assign hF rfl rfl) fun a hF => ?_
  exact wpList_nil (hq a w (hF.sub ⟨rfl, rfl, trivial⟩) (hS.pick [0, 1] rfl))
theorem rg1a {v0 v1 : Value} {code more : List Int} {Q : Exit → Act → World → Prop} {w0 w : World} {a : Act} (hF : Fr 639 a [(0, v0), (1, v1)]) (hS : St w0 w [.b v0 code, .b v1 more]) (c : (code.length : Int) > 4096)
    (hq : ∀ a' w', Fr 639 a' [(0, v0), (1, v1), (68, .bool true)] → St w0 w' [.b v0 code, .b v1 more] → Q .normal a' w') : (Code.region 1 (opsOf Tryz.f3 1) false).wp Tryz.prog Q a w := by
  conv => arg 2; arg 2; whnf
  refine wp_region_list ?_
  refine fr_pure (want0 rfl) rfl rfl hF (v_move hF rfl rfl) fun a hF => ?_
  refine fv_call1 (want0 rfl) rfl rfl rfl hF rfl good4 hS (k_laws_f6big (hS.get 0 rfl) (by unfold laws_f6big.f; exact congrArg some (decide_eq_true c))) fun a w hF hS => ?_
  refine fr_pure (want0 rfl) rfl rfl hF (v_move hF rfl rfl) fun a hF => ?_
  refine fr_skip (hF.skip rfl rfl rfl rfl rfl) rfl rfl hF fun a hF => ?_
  refine fr_skip (hF.skip rfl rfl rfl rfl rfl) rfl rfl hF fun a hF => ?_
  refine fr_pure (want0 rfl) rfl rfl hF (v_pick hF rfl rfl rfl) fun a hF => ?_
  exact wpList_nil (hq a w (hF.sub ⟨rfl, rfl, rfl, trivial⟩) (hS.pick [0, 1] rfl))
theorem rg1b {v0 v1 : Value} {code more : List Int} {Q : Exit → Act → World → Prop} {w0 w : World} {a : Act} (hF : Fr 639 a [(0, v0), (1, v1)]) (hS : St w0 w [.b v0 code, .b v1 more]) (c : ¬ (code.length : Int) > 4096) (c' : (more.length : Int) > 4096)
    (hq : ∀ a' w', Fr 639 a' [(0, v0), (1, v1), (68, .bool true)] → St w0 w' [.b v0 code, .b v1 more] → Q .normal a' w') : (Code.region 1 (opsOf Tryz.f3 1) false).wp Tryz.prog Q a w := by
  conv => arg 2; arg 2; whnf
  refine wp_region_list ?_
  refine fr_pure (want0 rfl) rfl rfl hF (v_move hF rfl rfl) fun a hF => ?_
  refine fv_call1 (want0 rfl) rfl rfl rfl hF rfl good4 hS (k_laws_f6big (hS.get 0 rfl) (by unfold laws_f6big.f; exact congrArg some (decide_eq_false c))) fun a w hF hS => ?_
  refine fr_pure (want0 rfl) rfl rfl hF (v_move hF rfl rfl) fun a hF => ?_
  refine fr_pure (hF.want rfl rfl rfl rfl) rfl rfl hF (v_move hF rfl rfl) fun a hF => ?_
  refine fv_call1 (hF.want rfl rfl rfl rfl) rfl rfl rfl hF rfl good4 hS (k_laws_f6big (hS.get 1 rfl) (by unfold laws_f6big.f; exact congrArg some (decide_eq_true c'))) fun a w hF hS => ?_
  refine fr_pure (want0 rfl) rfl rfl hF (v_pick hF rfl rfl rfl) fun a hF => ?_
  exact wpList_nil (hq a w (hF.sub ⟨rfl, rfl, rfl, trivial⟩) (hS.pick [0, 1] rfl))
theorem rg1c {v0 v1 : Value} {code more : List Int} {Q : Exit → Act → World → Prop} {w0 w : World} {a : Act} (hF : Fr 639 a [(0, v0), (1, v1)]) (hS : St w0 w [.b v0 code, .b v1 more]) (c : ¬ (code.length : Int) > 4096) (c' : ¬ (more.length : Int) > 4096)
    (hq : ∀ a' w', Fr 639 a' [(0, v0), (1, v1), (68, .bool false)] → St w0 w' [.b v0 code, .b v1 more] → Q .normal a' w') : (Code.region 1 (opsOf Tryz.f3 1) false).wp Tryz.prog Q a w := by
  conv => arg 2; arg 2; whnf
  refine wp_region_list ?_
  refine fr_pure (want0 rfl) rfl rfl hF (v_move hF rfl rfl) fun a hF => ?_
  refine fv_call1 (want0 rfl) rfl rfl rfl hF rfl good4 hS (k_laws_f6big (hS.get 0 rfl) (by unfold laws_f6big.f; exact congrArg some (decide_eq_false c))) fun a w hF hS => ?_
  refine fr_pure (want0 rfl) rfl rfl hF (v_move hF rfl rfl) fun a hF => ?_
  refine fr_pure (hF.want rfl rfl rfl rfl) rfl rfl hF (v_move hF rfl rfl) fun a hF => ?_
  refine fv_call1 (hF.want rfl rfl rfl rfl) rfl rfl rfl hF rfl good4 hS (k_laws_f6big (hS.get 1 rfl) (by unfold laws_f6big.f; exact congrArg some (decide_eq_false c'))) fun a w hF hS => ?_
  refine fr_pure (want0 rfl) rfl rfl hF (v_pick hF rfl rfl rfl) fun a hF => ?_
  exact wpList_nil (hq a w (hF.sub ⟨rfl, rfl, rfl, trivial⟩) (hS.pick [0, 1] rfl))
theorem rg2 {v0 : Value} {code : List Int} {Q : Exit → Act → World → Prop} {w0 w : World} {a : Act} (hF : Fr 639 a [(0, v0)]) (hS : St w0 w [.b v0 code])
    (hq : ∀ a' w', Fr 639 a' [(4, .bool true)] → St w0 w' [.b v0 code] → Q .normal a' w') : (Code.region 2 (opsOf Tryz.f3 2) false).wp Tryz.prog Q a w := by
  conv => arg 2; arg 2; whnf
  refine wp_region_list ?_
  refine fr_pure (want0 rfl) rfl rfl hF (v_assign hF rfl rfl) fun a hF => ?_
  exact wpList_nil (hq a w (hF.sub ⟨rfl, trivial⟩) (hS.pick [0] rfl))
theorem rg3 {v0 v1 : Value} {code more : List Int} {xs : List S43} {Q : Exit → Act → World → Prop} {w0 w : World} {a : Act} (hF : Fr 639 a [(0, v0), (1, v1)]) (hS : St w0 w [.b v0 code, .b v1 more]) (e : Evn (fun k => spec_P6Weather.f k code) xs)
    (hq : ∀ a' w' (v5 : Value), Fr 639 a' [(0, v0), (1, v1), (5, v5)] → St w0 w' [.b v0 code, .b v1 more, .d v5 xs] → Q .normal a' w') : (Code.region 3 (opsOf Tryz.f3 3) false).wp Tryz.prog Q a w := by
  conv => arg 2; arg 2; whnf
  refine wp_region_list ?_
  refine fr_pure (want0 rfl) rfl rfl hF (v_move hF rfl rfl) fun a hF => ?_
  refine fs_call1 (F := fun s => s) (mk := fun s => .d s (xs)) (want0 rfl) rfl rfl rfl hF rfl good5 hS (k_spec_P6Weather (hS.get 0 rfl) (e)) fun a w v5 hF hS => ?_
  refine fr_pure (want0 rfl) rfl rfl hF (v_assign hF rfl rfl) fun a hF => ?_
  exact wpList_nil (hq a w v5 (hF.sub ⟨rfl, rfl, rfl, trivial⟩) (hS.pick [1, 2, 0] rfl))
theorem rg4 {v0 v1 v5 : Value} {code more ps : List Int} {xs : List S43} {Q : Exit → Act → World → Prop} {w0 w : World} {a : Act} (hF : Fr 639 a [(0, v0), (1, v1), (5, v5)]) (hS : St w0 w [.b v0 code, .b v1 more, .d v5 xs]) (e : Evn (fun k => spec_P6Plan.f k more (xs.length : Int)) ps)
    (hq : ∀ a' w' (v6 : Value), Fr 639 a' [(0, v0), (1, v1), (5, v5), (6, v6)] → St w0 w' [.b v0 code, .b v1 more, .d v5 xs, .n v6 ps] → Q .normal a' w') : (Code.region 4 (opsOf Tryz.f3 4) false).wp Tryz.prog Q a w := by
  conv => arg 2; arg 2; whnf
  refine wp_region_list ?_
  refine fr_pure (want0 rfl) rfl rfl hF (v_move hF rfl rfl) fun a hF => ?_
  refine fr_pure (want0 rfl) rfl rfl hF (v_move hF rfl rfl) fun a hF => ?_
  refine fr_pure (want0 rfl) rfl rfl hF (v_len24 hF rfl rfl (hS.get 2 rfl)) fun a hF => ?_
  refine fs_call2 (F := fun s => s) (mk := fun s => .n s (ps)) (want0 rfl) rfl rfl rfl hF rfl rfl good6 hS (k_spec_P6Plan (hS.get 1 rfl) (e)) fun a w v6 hF hS => ?_
  refine fr_pure (want0 rfl) rfl rfl hF (v_assign hF rfl rfl) fun a hF => ?_
  exact wpList_nil (hq a w v6 (hF.sub ⟨rfl, rfl, rfl, rfl, trivial⟩) (hS.pick [1, 2, 3, 0] rfl))
theorem rg5 {v0 v1 v5 v6 : Value} {code more ps : List Int} {xs : List S43} {start : Int} {Q : Exit → Act → World → Prop} {w0 w : World} {a : Act} (hF : Fr 639 a [(0, v0), (1, v1), (5, v5), (6, v6)]) (hS : St w0 w [.b v0 code, .b v1 more, .d v5 xs, .n v6 ps]) (e : spec_P6Pick.f more 40 = some start)
    (hq : ∀ a' w', Fr 639 a' [(0, v0), (1, v1), (5, v5), (6, v6), (7, .int .i64 (start))] → St w0 w' [.b v0 code, .b v1 more, .d v5 xs, .n v6 ps] → Q .normal a' w') : (Code.region 5 (opsOf Tryz.f3 5) false).wp Tryz.prog Q a w := by
  conv => arg 2; arg 2; whnf
  refine wp_region_list ?_
  refine fr_pure (want0 rfl) rfl rfl hF (v_move hF rfl rfl) fun a hF => ?_
  refine fv_call2 (want0 rfl) rfl rfl rfl hF rfl rfl good7 hS (k_spec_P6Pick (hS.get 1 rfl) (e)) fun a w hF hS => ?_
  refine fr_pure (want0 rfl) rfl rfl hF (v_assign hF rfl rfl) fun a hF => ?_
  exact wpList_nil (hq a w (hF.sub ⟨rfl, rfl, rfl, rfl, rfl, trivial⟩) (hS.pick [0, 1, 2, 3] rfl))
theorem rg6 {v0 v1 v5 v6 : Value} {code more ps : List Int} {xs : List S43} {start cut : Int} {Q : Exit → Act → World → Prop} {w0 w : World} {a : Act} (hF : Fr 639 a [(0, v0), (1, v1), (5, v5), (6, v6), (7, .int .i64 (start))]) (hS : St w0 w [.b v0 code, .b v1 more, .d v5 xs, .n v6 ps]) (e : spec_P6Pick.f code 20 = some cut)
    (hq : ∀ a' w', Fr 639 a' [(0, v0), (1, v1), (5, v5), (6, v6), (7, .int .i64 (start)), (8, .int .i64 (cut))] → St w0 w' [.b v0 code, .b v1 more, .d v5 xs, .n v6 ps] → Q .normal a' w') : (Code.region 6 (opsOf Tryz.f3 6) false).wp Tryz.prog Q a w := by
  conv => arg 2; arg 2; whnf
  refine wp_region_list ?_
  refine fr_pure (want0 rfl) rfl rfl hF (v_move hF rfl rfl) fun a hF => ?_
  refine fv_call2 (want0 rfl) rfl rfl rfl hF rfl rfl good7 hS (k_spec_P6Pick (hS.get 0 rfl) (e)) fun a w hF hS => ?_
  refine fr_pure (want0 rfl) rfl rfl hF (v_assign hF rfl rfl) fun a hF => ?_
  exact wpList_nil (hq a w (hF.sub ⟨rfl, rfl, rfl, rfl, rfl, rfl, trivial⟩) (hS.pick [0, 1, 2, 3] rfl))
theorem rg7 {v0 v1 v5 v6 : Value} {code more ps : List Int} {xs : List S43} {start cut : Int} {Q : Exit → Act → World → Prop} {w0 w : World} {a : Act} (hF : Fr 639 a [(0, v0), (1, v1), (5, v5), (6, v6), (7, .int .i64 (start)), (8, .int .i64 (cut))]) (hS : St w0 w [.b v0 code, .b v1 more, .d v5 xs, .n v6 ps]) {t : ByteArray} (e : Evn (fun k => impl_WeatherText.f k xs) t) (e2 : Evn (fun k => impl_ReadWeather.f k t) (xs, 0))
    (hq : ∀ a' w' (v9 : Value), Fr 639 a' [(0, v0), (1, v1), (5, v5), (6, v6), (7, .int .i64 (start)), (8, .int .i64 (cut)), (9, v9), (10, .int .i64 (0))] → St w0 w' [.b v0 code, .b v1 more, .d v5 xs, .n v6 ps, .d v9 xs] → Q .normal a' w') : (Code.region 7 (opsOf Tryz.f3 7) false).wp Tryz.prog Q a w := by
  conv => arg 2; arg 2; whnf
  refine wp_region_list ?_
  refine fr_pure (want0 rfl) rfl rfl hF (v_move hF rfl rfl) fun a hF => ?_
  refine fv_call1 (want0 rfl) rfl rfl rfl hF rfl good9 hS (k_impl_WeatherText (hS.get 2 rfl) (e)) fun a w hF hS => ?_
  refine fs_call1 (F := fun s => .tuple #[s, .int .i64 0]) (mk := fun s => .d s (xs)) (want0 rfl) rfl rfl rfl hF rfl good8 hS (k_impl_ReadWeather hS.1 (e2)) fun a w v9 hF hS => ?_
  refine fr_pure (want0 rfl) rfl rfl hF (v_move hF rfl rfl) fun a hF => ?_
  refine fr_pure (want0 rfl) rfl rfl hF (v_extract hF rfl rfl rfl) fun a hF => ?_
  refine fr_pure (want0 rfl) rfl rfl hF (v_extract hF rfl rfl rfl) fun a hF => ?_
  refine fr_pure (want0 rfl) rfl rfl hF (v_assign hF rfl rfl) fun a hF => ?_
  refine fr_pure (want0 rfl) rfl rfl hF (v_assign hF rfl rfl) fun a hF => ?_
  exact wpList_nil (hq a w v9 (hF.sub ⟨rfl, rfl, rfl, rfl, rfl, rfl, rfl, rfl, trivial⟩) (hS.pick [1, 2, 3, 4, 0] rfl))
theorem rg8 {v0 v1 v5 v6 v9 : Value} {code more ps gs : List Int} {xs : List S43} {start cut : Int} {Q : Exit → Act → World → Prop} {w0 w : World} {a : Act} (hF : Fr 639 a [(0, v0), (1, v1), (5, v5), (6, v6), (7, .int .i64 (start)), (8, .int .i64 (cut)), (9, v9), (10, .int .i64 (0))]) (hS : St w0 w [.b v0 code, .b v1 more, .d v5 xs, .n v6 ps, .d v9 xs]) (e : Evn (fun k => impl_GrowthAll.f k xs) (gs, 0))
    (hq : ∀ a' w' (v11 : Value), Fr 639 a' [(0, v0), (1, v1), (5, v5), (6, v6), (7, .int .i64 (start)), (8, .int .i64 (cut)), (9, v9), (10, .int .i64 (0)), (11, v11), (12, .int .i64 (0))] → St w0 w' [.b v0 code, .b v1 more, .d v5 xs, .n v6 ps, .d v9 xs, .n v11 gs] → Q .normal a' w') : (Code.region 8 (opsOf Tryz.f3 8) false).wp Tryz.prog Q a w := by
  conv => arg 2; arg 2; whnf
  refine wp_region_list ?_
  refine fr_pure (want0 rfl) rfl rfl hF (v_move hF rfl rfl) fun a hF => ?_
  refine fs_call1 (F := fun s => .tuple #[s, .int .i64 0]) (mk := fun s => .n s (gs)) (want0 rfl) rfl rfl rfl hF rfl good10 hS (k_impl_GrowthAll (hS.get 2 rfl) (e)) fun a w v11 hF hS => ?_
  refine fr_pure (want0 rfl) rfl rfl hF (v_move hF rfl rfl) fun a hF => ?_
  refine fr_pure (want0 rfl) rfl rfl hF (v_extract hF rfl rfl rfl) fun a hF => ?_
  refine fr_pure (want0 rfl) rfl rfl hF (v_extract hF rfl rfl rfl) fun a hF => ?_
  refine fr_pure (want0 rfl) rfl rfl hF (v_assign hF rfl rfl) fun a hF => ?_
  refine fr_pure (want0 rfl) rfl rfl hF (v_assign hF rfl rfl) fun a hF => ?_
  exact wpList_nil (hq a w v11 (hF.sub ⟨rfl, rfl, rfl, rfl, rfl, rfl, rfl, rfl, rfl, rfl, trivial⟩) (hS.pick [1, 2, 3, 4, 5, 0] rfl))
theorem rg9 {v0 v1 v5 v6 v9 v11 : Value} {code more ps gs : List Int} {xs : List S43} {start cut : Int} {Q : Exit → Act → World → Prop} {w0 w : World} {a : Act} (hF : Fr 639 a [(0, v0), (1, v1), (5, v5), (6, v6), (7, .int .i64 (start)), (8, .int .i64 (cut)), (9, v9), (10, .int .i64 (0)), (11, v11), (12, .int .i64 (0))]) (hS : St w0 w [.b v0 code, .b v1 more, .d v5 xs, .n v6 ps, .d v9 xs, .n v11 gs]) (e : Evn (fun k => spec_GrowthAll.f k xs) (gs, 0))
    (hq : ∀ a' w' (v13 : Value), Fr 639 a' [(0, v0), (1, v1), (5, v5), (6, v6), (7, .int .i64 (start)), (8, .int .i64 (cut)), (9, v9), (10, .int .i64 (0)), (11, v11), (12, .int .i64 (0)), (13, v13), (14, .int .i64 (0))] → St w0 w' [.b v0 code, .b v1 more, .d v5 xs, .n v6 ps, .d v9 xs, .n v11 gs, .n v13 gs] → Q .normal a' w') : (Code.region 9 (opsOf Tryz.f3 9) false).wp Tryz.prog Q a w := by
  conv => arg 2; arg 2; whnf
  refine wp_region_list ?_
  refine fr_pure (want0 rfl) rfl rfl hF (v_move hF rfl rfl) fun a hF => ?_
  refine fs_call1 (F := fun s => .tuple #[s, .int .i64 0]) (mk := fun s => .n s (gs)) (want0 rfl) rfl rfl rfl hF rfl good11 hS (k_spec_GrowthAll (hS.get 2 rfl) (e)) fun a w v13 hF hS => ?_
  refine fr_pure (want0 rfl) rfl rfl hF (v_move hF rfl rfl) fun a hF => ?_
  refine fr_pure (want0 rfl) rfl rfl hF (v_extract hF rfl rfl rfl) fun a hF => ?_
  refine fr_pure (want0 rfl) rfl rfl hF (v_extract hF rfl rfl rfl) fun a hF => ?_
  refine fr_pure (want0 rfl) rfl rfl hF (v_assign hF rfl rfl) fun a hF => ?_
  refine fr_pure (want0 rfl) rfl rfl hF (v_assign hF rfl rfl) fun a hF => ?_
  exact wpList_nil (hq a w v13 (hF.sub ⟨rfl, rfl, rfl, rfl, rfl, rfl, rfl, rfl, rfl, rfl, rfl, rfl, trivial⟩) (hS.pick [1, 2, 3, 4, 5, 6, 0] rfl))
theorem rg10 {v0 v1 v5 v6 v9 v11 v13 : Value} {code more ps gs hs : List Int} {xs : List S43} {start cut : Int} {Q : Exit → Act → World → Prop} {w0 w : World} {a : Act} (hF : Fr 639 a [(0, v0), (1, v1), (5, v5), (6, v6), (7, .int .i64 (start)), (8, .int .i64 (cut)), (9, v9), (10, .int .i64 (0)), (11, v11), (12, .int .i64 (0)), (13, v13), (14, .int .i64 (0))]) (hS : St w0 w [.b v0 code, .b v1 more, .d v5 xs, .n v6 ps, .d v9 xs, .n v11 gs, .n v13 gs]) (e : Evn (fun k => impl_HeightsOf.f k start cut xs ps) (hs, 0))
    (hq : ∀ a' w' (v15 : Value), Fr 639 a' [(0, v0), (1, v1), (5, v5), (6, v6), (7, .int .i64 (start)), (8, .int .i64 (cut)), (9, v9), (10, .int .i64 (0)), (11, v11), (12, .int .i64 (0)), (13, v13), (14, .int .i64 (0)), (15, v15), (16, .int .i64 (0))] → St w0 w' [.b v0 code, .b v1 more, .d v5 xs, .n v6 ps, .d v9 xs, .n v11 gs, .n v13 gs, .n v15 hs] → Q .normal a' w') : (Code.region 10 (opsOf Tryz.f3 10) false).wp Tryz.prog Q a w := by
  conv => arg 2; arg 2; whnf
  refine wp_region_list ?_
  refine fr_pure (want0 rfl) rfl rfl hF (v_move hF rfl rfl) fun a hF => ?_
  refine fr_pure (want0 rfl) rfl rfl hF (v_move hF rfl rfl) fun a hF => ?_
  refine fr_pure (want0 rfl) rfl rfl hF (v_move hF rfl rfl) fun a hF => ?_
  refine fr_pure (want0 rfl) rfl rfl hF (v_move hF rfl rfl) fun a hF => ?_
  refine fs_call4 (F := fun s => .tuple #[s, .int .i64 0]) (mk := fun s => .n s (hs)) (want0 rfl) rfl rfl rfl hF rfl rfl rfl rfl good12 hS (k_impl_HeightsOf (hS.get 2 rfl) (hS.get 3 rfl) (e)) fun a w v15 hF hS => ?_
  refine fr_pure (want0 rfl) rfl rfl hF (v_move hF rfl rfl) fun a hF => ?_
  refine fr_pure (want0 rfl) rfl rfl hF (v_extract hF rfl rfl rfl) fun a hF => ?_
  refine fr_pure (want0 rfl) rfl rfl hF (v_extract hF rfl rfl rfl) fun a hF => ?_
  refine fr_pure (want0 rfl) rfl rfl hF (v_assign hF rfl rfl) fun a hF => ?_
  refine fr_pure (want0 rfl) rfl rfl hF (v_assign hF rfl rfl) fun a hF => ?_
  exact wpList_nil (hq a w v15 (hF.sub ⟨rfl, rfl, rfl, rfl, rfl, rfl, rfl, rfl, rfl, rfl, rfl, rfl, rfl, rfl, trivial⟩) (hS.pick [1, 2, 3, 4, 5, 6, 7, 0] rfl))
theorem rg11 {v0 v1 v5 v6 v9 v11 v13 v15 : Value} {code more ps gs hs : List Int} {xs : List S43} {start cut : Int} {Q : Exit → Act → World → Prop} {w0 w : World} {a : Act} (hF : Fr 639 a [(0, v0), (1, v1), (5, v5), (6, v6), (7, .int .i64 (start)), (8, .int .i64 (cut)), (9, v9), (10, .int .i64 (0)), (11, v11), (12, .int .i64 (0)), (13, v13), (14, .int .i64 (0)), (15, v15), (16, .int .i64 (0))]) (hS : St w0 w [.b v0 code, .b v1 more, .d v5 xs, .n v6 ps, .d v9 xs, .n v11 gs, .n v13 gs, .n v15 hs]) (e : Evn (fun k => spec_HeightsOf.f k start cut xs ps) (hs, 0))
    (hq : ∀ a' w' (v17 : Value), Fr 639 a' [(0, v0), (1, v1), (5, v5), (6, v6), (7, .int .i64 (start)), (8, .int .i64 (cut)), (9, v9), (10, .int .i64 (0)), (11, v11), (12, .int .i64 (0)), (13, v13), (14, .int .i64 (0)), (15, v15), (16, .int .i64 (0)), (17, v17), (18, .int .i64 (0))] → St w0 w' [.b v0 code, .b v1 more, .d v5 xs, .n v6 ps, .d v9 xs, .n v11 gs, .n v13 gs, .n v15 hs, .n v17 hs] → Q .normal a' w') : (Code.region 11 (opsOf Tryz.f3 11) false).wp Tryz.prog Q a w := by
  conv => arg 2; arg 2; whnf
  refine wp_region_list ?_
  refine fr_pure (want0 rfl) rfl rfl hF (v_move hF rfl rfl) fun a hF => ?_
  refine fr_pure (want0 rfl) rfl rfl hF (v_move hF rfl rfl) fun a hF => ?_
  refine fr_pure (want0 rfl) rfl rfl hF (v_move hF rfl rfl) fun a hF => ?_
  refine fr_pure (want0 rfl) rfl rfl hF (v_move hF rfl rfl) fun a hF => ?_
  refine fs_call4 (F := fun s => .tuple #[s, .int .i64 0]) (mk := fun s => .n s (hs)) (want0 rfl) rfl rfl rfl hF rfl rfl rfl rfl good13 hS (k_spec_HeightsOf (hS.get 2 rfl) (hS.get 3 rfl) (e)) fun a w v17 hF hS => ?_
  refine fr_pure (want0 rfl) rfl rfl hF (v_move hF rfl rfl) fun a hF => ?_
  refine fr_pure (want0 rfl) rfl rfl hF (v_extract hF rfl rfl rfl) fun a hF => ?_
  refine fr_pure (want0 rfl) rfl rfl hF (v_extract hF rfl rfl rfl) fun a hF => ?_
  refine fr_pure (want0 rfl) rfl rfl hF (v_assign hF rfl rfl) fun a hF => ?_
  refine fr_pure (want0 rfl) rfl rfl hF (v_assign hF rfl rfl) fun a hF => ?_
  exact wpList_nil (hq a w v17 (hF.sub ⟨rfl, rfl, rfl, rfl, rfl, rfl, rfl, rfl, rfl, rfl, rfl, rfl, rfl, rfl, rfl, rfl, trivial⟩) (hS.pick [1, 2, 3, 4, 5, 6, 7, 8, 0] rfl))
theorem rg12 {v0 v1 v5 v6 v9 v11 v13 v15 v17 : Value} {code more ps gs hs cs : List Int} {xs : List S43} {start cut : Int} {Q : Exit → Act → World → Prop} {w0 w : World} {a : Act} (hF : Fr 639 a [(0, v0), (1, v1), (5, v5), (6, v6), (7, .int .i64 (start)), (8, .int .i64 (cut)), (9, v9), (10, .int .i64 (0)), (11, v11), (12, .int .i64 (0)), (13, v13), (14, .int .i64 (0)), (15, v15), (16, .int .i64 (0)), (17, v17), (18, .int .i64 (0))]) (hS : St w0 w [.b v0 code, .b v1 more, .d v5 xs, .n v6 ps, .d v9 xs, .n v11 gs, .n v13 gs, .n v15 hs, .n v17 hs]) (e : Evn (fun k => impl_ClippingsOf.f k start cut xs ps) (cs, 0))
    (hq : ∀ a' w' (v19 : Value), Fr 639 a' [(0, v0), (1, v1), (5, v5), (6, v6), (7, .int .i64 (start)), (8, .int .i64 (cut)), (9, v9), (10, .int .i64 (0)), (11, v11), (12, .int .i64 (0)), (13, v13), (14, .int .i64 (0)), (15, v15), (16, .int .i64 (0)), (17, v17), (18, .int .i64 (0)), (19, v19), (20, .int .i64 (0))] → St w0 w' [.b v0 code, .b v1 more, .d v5 xs, .n v6 ps, .d v9 xs, .n v11 gs, .n v13 gs, .n v15 hs, .n v17 hs, .n v19 cs] → Q .normal a' w') : (Code.region 12 (opsOf Tryz.f3 12) false).wp Tryz.prog Q a w := by
  conv => arg 2; arg 2; whnf
  refine wp_region_list ?_
  refine fr_pure (want0 rfl) rfl rfl hF (v_move hF rfl rfl) fun a hF => ?_
  refine fr_pure (want0 rfl) rfl rfl hF (v_move hF rfl rfl) fun a hF => ?_
  refine fr_pure (want0 rfl) rfl rfl hF (v_move hF rfl rfl) fun a hF => ?_
  refine fr_pure (want0 rfl) rfl rfl hF (v_move hF rfl rfl) fun a hF => ?_
  refine fs_call4 (F := fun s => .tuple #[s, .int .i64 0]) (mk := fun s => .n s (cs)) (want0 rfl) rfl rfl rfl hF rfl rfl rfl rfl good14 hS (k_impl_ClippingsOf (hS.get 2 rfl) (hS.get 3 rfl) (e)) fun a w v19 hF hS => ?_
  refine fr_pure (want0 rfl) rfl rfl hF (v_move hF rfl rfl) fun a hF => ?_
  refine fr_pure (want0 rfl) rfl rfl hF (v_extract hF rfl rfl rfl) fun a hF => ?_
  refine fr_pure (want0 rfl) rfl rfl hF (v_extract hF rfl rfl rfl) fun a hF => ?_
  refine fr_pure (want0 rfl) rfl rfl hF (v_assign hF rfl rfl) fun a hF => ?_
  refine fr_pure (want0 rfl) rfl rfl hF (v_assign hF rfl rfl) fun a hF => ?_
  exact wpList_nil (hq a w v19 (hF.sub ⟨rfl, rfl, rfl, rfl, rfl, rfl, rfl, rfl, rfl, rfl, rfl, rfl, rfl, rfl, rfl, rfl, rfl, rfl, trivial⟩) (hS.pick [1, 2, 3, 4, 5, 6, 7, 8, 9, 0] rfl))
theorem rg13 {v0 v1 v5 v6 v9 v11 v13 v15 v17 v19 : Value} {code more ps gs hs cs : List Int} {xs : List S43} {start cut : Int} {Q : Exit → Act → World → Prop} {w0 w : World} {a : Act} (hF : Fr 639 a [(0, v0), (1, v1), (5, v5), (6, v6), (7, .int .i64 (start)), (8, .int .i64 (cut)), (9, v9), (10, .int .i64 (0)), (11, v11), (12, .int .i64 (0)), (13, v13), (14, .int .i64 (0)), (15, v15), (16, .int .i64 (0)), (17, v17), (18, .int .i64 (0)), (19, v19), (20, .int .i64 (0))]) (hS : St w0 w [.b v0 code, .b v1 more, .d v5 xs, .n v6 ps, .d v9 xs, .n v11 gs, .n v13 gs, .n v15 hs, .n v17 hs, .n v19 cs]) (e : Evn (fun k => spec_ClippingsOf.f k start cut xs ps) (cs, 0))
    (hq : ∀ a' w' (v21 : Value), Fr 639 a' [(0, v0), (1, v1), (5, v5), (6, v6), (7, .int .i64 (start)), (8, .int .i64 (cut)), (9, v9), (10, .int .i64 (0)), (11, v11), (12, .int .i64 (0)), (13, v13), (14, .int .i64 (0)), (15, v15), (16, .int .i64 (0)), (17, v17), (18, .int .i64 (0)), (19, v19), (20, .int .i64 (0)), (21, v21), (22, .int .i64 (0))] → St w0 w' [.b v0 code, .b v1 more, .d v5 xs, .n v6 ps, .d v9 xs, .n v11 gs, .n v13 gs, .n v15 hs, .n v17 hs, .n v19 cs, .n v21 cs] → Q .normal a' w') : (Code.region 13 (opsOf Tryz.f3 13) false).wp Tryz.prog Q a w := by
  conv => arg 2; arg 2; whnf
  refine wp_region_list ?_
  refine fr_pure (want0 rfl) rfl rfl hF (v_move hF rfl rfl) fun a hF => ?_
  refine fr_pure (want0 rfl) rfl rfl hF (v_move hF rfl rfl) fun a hF => ?_
  refine fr_pure (want0 rfl) rfl rfl hF (v_move hF rfl rfl) fun a hF => ?_
  refine fr_pure (want0 rfl) rfl rfl hF (v_move hF rfl rfl) fun a hF => ?_
  refine fs_call4 (F := fun s => .tuple #[s, .int .i64 0]) (mk := fun s => .n s (cs)) (want0 rfl) rfl rfl rfl hF rfl rfl rfl rfl good15 hS (k_spec_ClippingsOf (hS.get 2 rfl) (hS.get 3 rfl) (e)) fun a w v21 hF hS => ?_
  refine fr_pure (want0 rfl) rfl rfl hF (v_move hF rfl rfl) fun a hF => ?_
  refine fr_pure (want0 rfl) rfl rfl hF (v_extract hF rfl rfl rfl) fun a hF => ?_
  refine fr_pure (want0 rfl) rfl rfl hF (v_extract hF rfl rfl rfl) fun a hF => ?_
  refine fr_pure (want0 rfl) rfl rfl hF (v_assign hF rfl rfl) fun a hF => ?_
  refine fr_pure (want0 rfl) rfl rfl hF (v_assign hF rfl rfl) fun a hF => ?_
  exact wpList_nil (hq a w v21 (hF.sub ⟨rfl, rfl, rfl, rfl, rfl, rfl, rfl, rfl, rfl, rfl, rfl, rfl, rfl, rfl, rfl, rfl, rfl, rfl, rfl, rfl, trivial⟩) (hS.pick [1, 2, 3, 4, 5, 6, 7, 8, 9, 10, 0] rfl))
end Go.Proofs.YtibpndhcijmhpaaGreatDoor.B
