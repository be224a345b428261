/- The law's body, region by region: the great test. Printed by a program of this session. -/
import Derived.Test.YtibpndhcijmhpaaGreatDoorGc
namespace Go.Proofs.YtibpndhcijmhpaaGreatDoor.B
open Go.RowKit Go.Proofs.YtibpndhcijmhpaaGreatDoorW.PrintLast Go.Proofs.YtibpndhcijmhpaaGreatDoorW.PrintWords Go.Proofs.YtibpndhcijmhpaaGreatDoor.QG
set_option linter.unusedSimpArgs false
set_option linter.unusedVariables false
set_option maxRecDepth 100000
theorem rg14 {v0 v1 v5 v6 v9 v11 v13 v15 v17 v19 v21 : Value} {code more ps gs hs cs : List Int} {xs : List S43} {start cut : Int} {Q : Exit → Act → World → Prop} {w0 w : World} {a : Act} (hF : Fr 639 a [(0, v0), (1, v1), (5, v5), (6, v6), (7, .int .i64 (start)), (8, .int .i64 (cut)), (9, v9), (10, .int .i64 (0)), (11, v11), (12, .int .i64 (0)), (13, v13), (14, .int .i64 (0)), (15, v15), (16, .int .i64 (0)), (17, v17), (18, .int .i64 (0)), (19, v19), (20, .int .i64 (0)), (21, v21), (22, .int .i64 (0))]) (hS : St w0 w [.b v0 code, .b v1 more, .d v5 xs, .n v6 ps, .d v9 xs, .n v11 gs, .n v13 gs, .n v15 hs, .n v17 hs, .n v19 cs, .n v21 cs]) (hx : xs.length ≤ 8) (hp : ps.length ≤ 8) (hg : gs.length = xs.length) (hh : hs.length = xs.length) (hc : cs.length = ps.length) (hv : Evn (fun k => impl_ValidWeather.f k xs) true)
    (hq : ∀ a' w', Fr 639 a' [(0, v0), (1, v1), (5, v5), (6, v6), (7, .int .i64 (start)), (8, .int .i64 (cut)), (13, v13), (17, v17), (21, v21), (218, .bool false)] → St w0 w' [.b v0 code, .b v1 more, .d v5 xs, .n v6 ps, .n v13 gs, .n v17 hs, .n v21 cs] → Q .normal a' w') : (Code.region 14 (opsOf Tryz.f3 14) false).wp Tryz.prog Q a w := by
  conv => arg 2; arg 2; whnf
  refine wp_region_list ?_
  refine fr_pure (want0 rfl) rfl rfl hF (v_move hF rfl rfl) fun a hF => ?_
  refine fr_pure (want0 rfl) rfl rfl hF (v_neq (b := false) hF rfl rfl rfl (by simp)) fun a hF => ?_
  refine fr_pure (want0 rfl) rfl rfl hF (v_move hF rfl rfl) fun a hF => ?_
  refine fr_pure (hF.want rfl rfl rfl rfl) rfl rfl hF (v_move hF rfl rfl) fun a hF => ?_
  refine fr_pure (hF.want rfl rfl rfl rfl) rfl rfl hF (v_len24 hF rfl rfl (hS.get 4 rfl)) fun a hF => ?_
  refine fr_pure (hF.want rfl rfl rfl rfl) rfl rfl hF (v_move hF rfl rfl) fun a hF => ?_
  refine fr_pure (hF.want rfl rfl rfl rfl) rfl rfl hF (v_len24 hF rfl rfl (hS.get 2 rfl)) fun a hF => ?_
  refine fr_pure (hF.want rfl rfl rfl rfl) rfl rfl hF (v_neq (b := false) hF rfl rfl rfl (by simp)) fun a hF => ?_
  refine fr_pure (want0 rfl) rfl rfl hF (v_pick hF rfl rfl rfl) fun a hF => ?_
  refine fr_pure (want0 rfl) rfl rfl hF (v_move hF rfl rfl) fun a hF => ?_
  refine fr_pure (hF.want rfl rfl rfl rfl) rfl rfl hF (v_move hF rfl rfl) fun a hF => ?_
  refine fr_pure (hF.want rfl rfl rfl rfl) rfl rfl hF (v_move hF rfl rfl) fun a hF => ?_
  refine fv_call2 (hF.want rfl rfl rfl rfl) rfl rfl rfl hF rfl rfl good16 hS (k_spec_SameWeather (hS.get 4 rfl) (hS.get 2 rfl) (sameW _ (by omega))) fun a w hF hS => ?_
  refine fr_pure (hF.want rfl rfl rfl rfl) rfl rfl hF (v_not hF rfl rfl rfl) fun a hF => ?_
  refine fr_pure (want0 rfl) rfl rfl hF (v_pick hF rfl rfl rfl) fun a hF => ?_
  refine fr_pure (want0 rfl) rfl rfl hF (v_move hF rfl rfl) fun a hF => ?_
  refine fr_pure (hF.want rfl rfl rfl rfl) rfl rfl hF (v_move hF rfl rfl) fun a hF => ?_
  refine fr_pure (hF.want rfl rfl rfl rfl) rfl rfl hF (v_move hF rfl rfl) fun a hF => ?_
  refine fv_call2 (hF.want rfl rfl rfl rfl) rfl rfl rfl hF rfl rfl good17 hS (k_impl_SameWeather (hS.get 4 rfl) (hS.get 2 rfl) (sameI _ (by omega))) fun a w hF hS => ?_
  refine fr_pure (hF.want rfl rfl rfl rfl) rfl rfl hF (v_not hF rfl rfl rfl) fun a hF => ?_
  refine fr_pure (want0 rfl) rfl rfl hF (v_pick hF rfl rfl rfl) fun a hF => ?_
  refine fr_pure (want0 rfl) rfl rfl hF (v_move hF rfl rfl) fun a hF => ?_
  refine fr_pure (hF.want rfl rfl rfl rfl) rfl rfl hF (v_move hF rfl rfl) fun a hF => ?_
  refine fv_call1 (hF.want rfl rfl rfl rfl) rfl rfl rfl hF rfl good18 hS (k_impl_ValidWeather (hS.get 2 rfl) (hv)) fun a w hF hS => ?_
  refine fr_pure (hF.want rfl rfl rfl rfl) rfl rfl hF (v_not hF rfl rfl rfl) fun a hF => ?_
  refine fr_pure (want0 rfl) rfl rfl hF (v_pick hF rfl rfl rfl) fun a hF => ?_
  refine fr_pure (want0 rfl) rfl rfl hF (v_move hF rfl rfl) fun a hF => ?_
  refine fr_pure (hF.want rfl rfl rfl rfl) rfl rfl hF (v_move hF rfl rfl) fun a hF => ?_
  refine fr_pure (hF.want rfl rfl rfl rfl) rfl rfl hF (v_move hF rfl rfl) fun a hF => ?_
  refine fr_pure (hF.want rfl rfl rfl rfl) rfl rfl hF (v_neq (b := false) hF rfl rfl rfl (by simp)) fun a hF => ?_
  refine fr_pure (want0 rfl) rfl rfl hF (v_pick hF rfl rfl rfl) fun a hF => ?_
  refine fr_pure (want0 rfl) rfl rfl hF (v_move hF rfl rfl) fun a hF => ?_
  refine fr_pure (hF.want rfl rfl rfl rfl) rfl rfl hF (v_move hF rfl rfl) fun a hF => ?_
  refine fr_pure (hF.want rfl rfl rfl rfl) rfl rfl hF (v_neq (b := false) hF rfl rfl rfl (by simp)) fun a hF => ?_
  refine fr_pure (want0 rfl) rfl rfl hF (v_pick hF rfl rfl rfl) fun a hF => ?_
  refine fr_pure (want0 rfl) rfl rfl hF (v_move hF rfl rfl) fun a hF => ?_
  refine fr_pure (hF.want rfl rfl rfl rfl) rfl rfl hF (v_move hF rfl rfl) fun a hF => ?_
  refine fr_pure (hF.want rfl rfl rfl rfl) rfl rfl hF (v_move hF rfl rfl) fun a hF => ?_
  refine fv_call2 (hF.want rfl rfl rfl rfl) rfl rfl rfl hF rfl rfl good19 hS (k_spec_SameNumbers (hS.get 5 rfl) (hS.get 6 rfl) (sameN _ (by omega))) fun a w hF hS => ?_
  refine fr_pure (hF.want rfl rfl rfl rfl) rfl rfl hF (v_not hF rfl rfl rfl) fun a hF => ?_
  refine fr_pure (want0 rfl) rfl rfl hF (v_pick hF rfl rfl rfl) fun a hF => ?_
  refine fr_pure (want0 rfl) rfl rfl hF (v_move hF rfl rfl) fun a hF => ?_
  refine fr_pure (hF.want rfl rfl rfl rfl) rfl rfl hF (v_move hF rfl rfl) fun a hF => ?_
  refine fr_pure (hF.want rfl rfl rfl rfl) rfl rfl hF (v_move hF rfl rfl) fun a hF => ?_
  refine fr_pure (hF.want rfl rfl rfl rfl) rfl rfl hF (v_neq (b := false) hF rfl rfl rfl (by simp)) fun a hF => ?_
  refine fr_pure (want0 rfl) rfl rfl hF (v_pick hF rfl rfl rfl) fun a hF => ?_
  refine fr_pure (want0 rfl) rfl rfl hF (v_move hF rfl rfl) fun a hF => ?_
  refine fr_pure (hF.want rfl rfl rfl rfl) rfl rfl hF (v_move hF rfl rfl) fun a hF => ?_
  refine fr_pure (hF.want rfl rfl rfl rfl) rfl rfl hF (v_neq (b := false) hF rfl rfl rfl (by simp)) fun a hF => ?_
  refine fr_pure (want0 rfl) rfl rfl hF (v_pick hF rfl rfl rfl) fun a hF => ?_
  refine fr_pure (want0 rfl) rfl rfl hF (v_move hF rfl rfl) fun a hF => ?_
  refine fr_pure (hF.want rfl rfl rfl rfl) rfl rfl hF (v_move hF rfl rfl) fun a hF => ?_
  refine fr_pure (hF.want rfl rfl rfl rfl) rfl rfl hF (v_move hF rfl rfl) fun a hF => ?_
  refine fv_call2 (hF.want rfl rfl rfl rfl) rfl rfl rfl hF rfl rfl good19 hS (k_spec_SameNumbers (hS.get 7 rfl) (hS.get 8 rfl) (sameN _ (by omega))) fun a w hF hS => ?_
  refine fr_pure (hF.want rfl rfl rfl rfl) rfl rfl hF (v_not hF rfl rfl rfl) fun a hF => ?_
  refine fr_pure (want0 rfl) rfl rfl hF (v_pick hF rfl rfl rfl) fun a hF => ?_
  refine fr_pure (want0 rfl) rfl rfl hF (v_move hF rfl rfl) fun a hF => ?_
  refine fr_pure (hF.want rfl rfl rfl rfl) rfl rfl hF (v_move hF rfl rfl) fun a hF => ?_
  refine fr_pure (hF.want rfl rfl rfl rfl) rfl rfl hF (v_move hF rfl rfl) fun a hF => ?_
  refine fr_pure (hF.want rfl rfl rfl rfl) rfl rfl hF (v_neq (b := false) hF rfl rfl rfl (by simp)) fun a hF => ?_
  refine fr_pure (want0 rfl) rfl rfl hF (v_pick hF rfl rfl rfl) fun a hF => ?_
  refine fr_pure (want0 rfl) rfl rfl hF (v_move hF rfl rfl) fun a hF => ?_
  refine fr_pure (hF.want rfl rfl rfl rfl) rfl rfl hF (v_move hF rfl rfl) fun a hF => ?_
  refine fr_pure (hF.want rfl rfl rfl rfl) rfl rfl hF (v_neq (b := false) hF rfl rfl rfl (by simp)) fun a hF => ?_
  refine fr_pure (want0 rfl) rfl rfl hF (v_pick hF rfl rfl rfl) fun a hF => ?_
  refine fr_pure (want0 rfl) rfl rfl hF (v_move hF rfl rfl) fun a hF => ?_
  refine fr_pure (hF.want rfl rfl rfl rfl) rfl rfl hF (v_move hF rfl rfl) fun a hF => ?_
  refine fr_pure (hF.want rfl rfl rfl rfl) rfl rfl hF (v_move hF rfl rfl) fun a hF => ?_
  refine fv_call2 (hF.want rfl rfl rfl rfl) rfl rfl rfl hF rfl rfl good19 hS (k_spec_SameNumbers (hS.get 9 rfl) (hS.get 10 rfl) (sameN _ (by omega))) fun a w hF hS => ?_
  refine fr_pure (hF.want rfl rfl rfl rfl) rfl rfl hF (v_not hF rfl rfl rfl) fun a hF => ?_
  refine fr_pure (want0 rfl) rfl rfl hF (v_pick hF rfl rfl rfl) fun a hF => ?_
  refine fr_pure (want0 rfl) rfl rfl hF (v_move hF rfl rfl) fun a hF => ?_
  refine fr_pure (hF.want rfl rfl rfl rfl) rfl rfl hF (v_move hF rfl rfl) fun a hF => ?_
  refine fr_pure (hF.want rfl rfl rfl rfl) rfl rfl hF (v_len26 hF rfl rfl (hS.get 6 rfl)) fun a hF => ?_
  refine fr_pure (hF.want rfl rfl rfl rfl) rfl rfl hF (v_move hF rfl rfl) fun a hF => ?_
  refine fr_pure (hF.want rfl rfl rfl rfl) rfl rfl hF (v_len24 hF rfl rfl (hS.get 2 rfl)) fun a hF => ?_
  refine fr_pure (hF.want rfl rfl rfl rfl) rfl rfl hF (v_neq (b := false) hF rfl rfl rfl (by simp [hg])) fun a hF => ?_
  refine fr_pure (want0 rfl) rfl rfl hF (v_pick hF rfl rfl rfl) fun a hF => ?_
  refine fr_pure (want0 rfl) rfl rfl hF (v_move hF rfl rfl) fun a hF => ?_
  refine fr_pure (hF.want rfl rfl rfl rfl) rfl rfl hF (v_move hF rfl rfl) fun a hF => ?_
  refine fr_pure (hF.want rfl rfl rfl rfl) rfl rfl hF (v_len26 hF rfl rfl (hS.get 8 rfl)) fun a hF => ?_
  refine fr_pure (hF.want rfl rfl rfl rfl) rfl rfl hF (v_move hF rfl rfl) fun a hF => ?_
  refine fr_pure (hF.want rfl rfl rfl rfl) rfl rfl hF (v_len24 hF rfl rfl (hS.get 2 rfl)) fun a hF => ?_
  refine fr_pure (hF.want rfl rfl rfl rfl) rfl rfl hF (v_neq (b := false) hF rfl rfl rfl (by simp [hh])) fun a hF => ?_
  refine fr_pure (want0 rfl) rfl rfl hF (v_pick hF rfl rfl rfl) fun a hF => ?_
  refine fr_pure (want0 rfl) rfl rfl hF (v_move hF rfl rfl) fun a hF => ?_
  refine fr_pure (hF.want rfl rfl rfl rfl) rfl rfl hF (v_move hF rfl rfl) fun a hF => ?_
  refine fr_pure (hF.want rfl rfl rfl rfl) rfl rfl hF (v_len26 hF rfl rfl (hS.get 10 rfl)) fun a hF => ?_
  refine fr_pure (hF.want rfl rfl rfl rfl) rfl rfl hF (v_move hF rfl rfl) fun a hF => ?_
  refine fr_pure (hF.want rfl rfl rfl rfl) rfl rfl hF (v_len26 hF rfl rfl (hS.get 3 rfl)) fun a hF => ?_
  refine fr_pure (hF.want rfl rfl rfl rfl) rfl rfl hF (v_neq (b := false) hF rfl rfl rfl (by simp [hc])) fun a hF => ?_
  refine fr_pure (want0 rfl) rfl rfl hF (v_pick hF rfl rfl rfl) fun a hF => ?_
  exact wpList_nil (hq a w (hF.sub ⟨rfl, rfl, rfl, rfl, rfl, rfl, rfl, rfl, rfl, rfl, trivial⟩) (hS.pick [0, 1, 2, 3, 6, 8, 10] rfl))
end Go.Proofs.YtibpndhcijmhpaaGreatDoor.B
