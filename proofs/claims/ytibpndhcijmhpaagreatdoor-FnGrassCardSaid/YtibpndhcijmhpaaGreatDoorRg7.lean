/- The law's body, region by region: days exchanged. Printed by a program of this session. -/
import Derived.Test.YtibpndhcijmhpaaGreatDoorGc
namespace Go.Proofs.YtibpndhcijmhpaaGreatDoor.B
open Go.RowKit Go.Proofs.YtibpndhcijmhpaaGreatDoorW.PrintLast Go.Proofs.YtibpndhcijmhpaaGreatDoorW.PrintWords Go.Proofs.YtibpndhcijmhpaaGreatDoor.QG
set_option linter.unusedSimpArgs false
set_option linter.unusedVariables false
set_option maxRecDepth 100000
theorem rg73a {v0 v1 v5 : Value} {code more : List Int} {xs : List S43} {c : Nat} {Q : Exit → Act → World → Prop} {w0 w : World} {a : Act} (hF : Fr 639 a [(0, v0), (1, v1), (5, v5), (35, .int .i64 ((c : Int)))]) (hS : St w0 w [.b v0 code, .b v1 more, .d v5 xs]) (h : xs.length = 0)
    (hq : ∀ a' w', Fr 639 a' [(0, v0), (1, v1), (5, v5), (35, .int .i64 ((c : Int))), (579, .bool true)] → St w0 w' [.b v0 code, .b v1 more, .d v5 xs] → Q .normal a' w') : (Code.region 73 (opsOf Tryz.f3 73) false).wp Tryz.prog Q a w := by
  conv => arg 2; arg 2; whnf
  refine wp_region_list ?_
  refine fr_pure (want0 rfl) rfl rfl hF (v_move hF rfl rfl) fun a hF => ?_
  refine fr_pure (want0 rfl) rfl rfl hF (v_len24 hF rfl rfl (hS.get 2 rfl)) fun a hF => ?_
  refine fr_pure (want0 rfl) rfl rfl hF (v_eql (b := true) hF rfl rfl rfl (decide_eq_true (by omega))) fun a hF => ?_
  exact wpList_nil (hq a w (hF.sub ⟨rfl, rfl, rfl, rfl, rfl, trivial⟩) (hS.pick [0, 1, 2] rfl))
theorem rg73b {v0 v1 v5 : Value} {code more : List Int} {xs : List S43} {c : Nat} {Q : Exit → Act → World → Prop} {w0 w : World} {a : Act} (hF : Fr 639 a [(0, v0), (1, v1), (5, v5), (35, .int .i64 ((c : Int)))]) (hS : St w0 w [.b v0 code, .b v1 more, .d v5 xs]) (h : ¬ xs.length = 0)
    (hq : ∀ a' w', Fr 639 a' [(0, v0), (1, v1), (5, v5), (579, .bool false)] → St w0 w' [.b v0 code, .b v1 more, .d v5 xs] → Q .normal a' w') : (Code.region 73 (opsOf Tryz.f3 73) false).wp Tryz.prog Q a w := by
  conv => arg 2; arg 2; whnf
  refine wp_region_list ?_
  refine fr_pure (want0 rfl) rfl rfl hF (v_move hF rfl rfl) fun a hF => ?_
  refine fr_pure (want0 rfl) rfl rfl hF (v_len24 hF rfl rfl (hS.get 2 rfl)) fun a hF => ?_
  refine fr_pure (want0 rfl) rfl rfl hF (v_eql (b := false) hF rfl rfl rfl (decide_eq_false (by omega))) fun a hF => ?_
  exact wpList_nil (hq a w (hF.sub ⟨rfl, rfl, rfl, rfl, trivial⟩) (hS.pick [0, 1, 2] rfl))
theorem rg74 {v0 : Value} {code : List Int} {c : Nat} {Q : Exit → Act → World → Prop} {w0 w : World} {a : Act} (hF : Fr 639 a [(35, .int .i64 ((c : Int)))]) (hS : St w0 w [.b v0 code]) (h : c = 6)
    (hq : ∀ a' w', Fr 639 a' [(4, .bool true)] → St w0 w' [.b v0 code] → Q .normal a' w') : (Code.region 74 (opsOf Tryz.f3 74) false).wp Tryz.prog Q a w := by
  conv => arg 2; arg 2; whnf
  refine wp_region_list ?_
  refine fr_pure (want0 rfl) rfl rfl hF (v_move hF rfl rfl) fun a hF => ?_
  refine fr_pure (want0 rfl) rfl rfl hF (v_eql (b := true) hF rfl rfl rfl (decide_eq_true (by omega))) fun a hF => ?_
  refine fr_pure (want0 rfl) rfl rfl hF (v_assign hF rfl rfl) fun a hF => ?_
  exact wpList_nil (hq a w (hF.sub ⟨rfl, trivial⟩) (hS.pick [0] rfl))
theorem rg75 {v0 v1 v5 : Value} {code more : List Int} {xs : List S43} {p : Nat} {Q : Exit → Act → World → Prop} {w0 w : World} {a : Act} (hF : Fr 639 a [(0, v0), (1, v1), (5, v5)]) (hS : St w0 w [.b v0 code, .b v1 more, .d v5 xs]) (e : spec_P6Pick.f more (xs.length : Int) = some (p : Int))
    (hq : ∀ a' w', Fr 639 a' [(0, v0), (1, v1), (5, v5), (55, .int .i64 ((p : Int)))] → St w0 w' [.b v0 code, .b v1 more, .d v5 xs] → Q .normal a' w') : (Code.region 75 (opsOf Tryz.f3 75) false).wp Tryz.prog Q a w := by
  conv => arg 2; arg 2; whnf
  refine wp_region_list ?_
  refine fr_pure (want0 rfl) rfl rfl hF (v_move hF rfl rfl) fun a hF => ?_
  refine fr_pure (want0 rfl) rfl rfl hF (v_move hF rfl rfl) fun a hF => ?_
  refine fr_pure (want0 rfl) rfl rfl hF (v_len24 hF rfl rfl (hS.get 2 rfl)) fun a hF => ?_
  refine fv_call2 (want0 rfl) rfl rfl rfl hF rfl rfl good7 hS (k_spec_P6Pick (hS.get 1 rfl) (e)) fun a w hF hS => ?_
  refine fr_pure (want0 rfl) rfl rfl hF (v_assign hF rfl rfl) fun a hF => ?_
  exact wpList_nil (hq a w (hF.sub ⟨rfl, rfl, rfl, rfl, trivial⟩) (hS.pick [0, 1, 2] rfl))
theorem rg76 {v0 v1 v5 : Value} {code more : List Int} {xs : List S43} {p u : Nat} {Q : Exit → Act → World → Prop} {w0 w : World} {a : Act} (hF : Fr 639 a [(0, v0), (1, v1), (5, v5), (55, .int .i64 ((p : Int)))]) (hS : St w0 w [.b v0 code, .b v1 more, .d v5 xs]) (e : spec_P6Pick.f code (xs.length : Int) = some (u : Int))
    (hq : ∀ a' w', Fr 639 a' [(0, v0), (1, v1), (5, v5), (55, .int .i64 ((p : Int))), (56, .int .i64 ((u : Int)))] → St w0 w' [.b v0 code, .b v1 more, .d v5 xs] → Q .normal a' w') : (Code.region 76 (opsOf Tryz.f3 76) false).wp Tryz.prog Q a w := by
  conv => arg 2; arg 2; whnf
  refine wp_region_list ?_
  refine fr_pure (want0 rfl) rfl rfl hF (v_move hF rfl rfl) fun a hF => ?_
  refine fr_pure (want0 rfl) rfl rfl hF (v_move hF rfl rfl) fun a hF => ?_
  refine fr_pure (want0 rfl) rfl rfl hF (v_len24 hF rfl rfl (hS.get 2 rfl)) fun a hF => ?_
  refine fv_call2 (want0 rfl) rfl rfl rfl hF rfl rfl good7 hS (k_spec_P6Pick (hS.get 0 rfl) (e)) fun a w hF hS => ?_
  refine fr_pure (want0 rfl) rfl rfl hF (v_assign hF rfl rfl) fun a hF => ?_
  exact wpList_nil (hq a w (hF.sub ⟨rfl, rfl, rfl, rfl, rfl, trivial⟩) (hS.pick [0, 1, 2] rfl))
theorem rg77 {v0 v1 v5 : Value} {code more : List Int} {xs ys : List S43} {p u : Nat} {Q : Exit → Act → World → Prop} {w0 w : World} {a : Act} (hF : Fr 639 a [(0, v0), (1, v1), (5, v5), (55, .int .i64 ((p : Int))), (56, .int .i64 ((u : Int)))]) (hS : St w0 w [.b v0 code, .b v1 more, .d v5 xs]) (e : Evn (fun k => impl_SwapDays.f k xs (p : Int) (u : Int)) (ys, 0))
    (hq : ∀ a' w' (v57 : Value), Fr 639 a' [(0, v0), (1, v1), (5, v5), (55, .int .i64 ((p : Int))), (56, .int .i64 ((u : Int))), (57, v57), (58, .int .i64 (0))] → St w0 w' [.b v0 code, .b v1 more, .d v5 xs, .d v57 ys] → Q .normal a' w') : (Code.region 77 (opsOf Tryz.f3 77) false).wp Tryz.prog Q a w := by
  conv => arg 2; arg 2; whnf
  refine wp_region_list ?_
  refine fr_pure (want0 rfl) rfl rfl hF (v_move hF rfl rfl) fun a hF => ?_
  refine fr_pure (want0 rfl) rfl rfl hF (v_move hF rfl rfl) fun a hF => ?_
  refine fr_pure (want0 rfl) rfl rfl hF (v_move hF rfl rfl) fun a hF => ?_
  refine fs_call3 (F := fun s => .tuple #[s, .int .i64 0]) (mk := fun s => .d s (ys)) (want0 rfl) rfl rfl rfl hF rfl rfl rfl good31 hS (k_impl_SwapDays (hS.get 2 rfl) (e)) fun a w v57 hF hS => ?_
  refine fr_pure (want0 rfl) rfl rfl hF (v_move hF rfl rfl) fun a hF => ?_
  refine fr_pure (want0 rfl) rfl rfl hF (v_extract hF rfl rfl rfl) fun a hF => ?_
  refine fr_pure (want0 rfl) rfl rfl hF (v_extract hF rfl rfl rfl) fun a hF => ?_
  refine fr_pure (want0 rfl) rfl rfl hF (v_assign hF rfl rfl) fun a hF => ?_
  refine fr_pure (want0 rfl) rfl rfl hF (v_assign hF rfl rfl) fun a hF => ?_
  exact wpList_nil (hq a w v57 (hF.sub ⟨rfl, rfl, rfl, rfl, rfl, rfl, rfl, trivial⟩) (hS.pick [1, 2, 3, 0] rfl))
theorem rg78 {v0 v1 v5 v57 : Value} {code more : List Int} {xs ys : List S43} {p u : Nat} {Q : Exit → Act → World → Prop} {w0 w : World} {a : Act} (hF : Fr 639 a [(0, v0), (1, v1), (5, v5), (55, .int .i64 ((p : Int))), (56, .int .i64 ((u : Int))), (57, v57), (58, .int .i64 (0))]) (hS : St w0 w [.b v0 code, .b v1 more, .d v5 xs, .d v57 ys]) (e : Evn (fun k => spec_SwapDays.f k xs (p : Int) (u : Int)) (ys, 0))
    (hq : ∀ a' w' (v59 : Value), Fr 639 a' [(0, v0), (1, v1), (5, v5), (55, .int .i64 ((p : Int))), (56, .int .i64 ((u : Int))), (57, v57), (58, .int .i64 (0)), (59, v59), (60, .int .i64 (0))] → St w0 w' [.b v0 code, .b v1 more, .d v5 xs, .d v57 ys, .d v59 ys] → Q .normal a' w') : (Code.region 78 (opsOf Tryz.f3 78) false).wp Tryz.prog Q a w := by
  conv => arg 2; arg 2; whnf
  refine wp_region_list ?_
  refine fr_pure (want0 rfl) rfl rfl hF (v_move hF rfl rfl) fun a hF => ?_
  refine fr_pure (want0 rfl) rfl rfl hF (v_move hF rfl rfl) fun a hF => ?_
  refine fr_pure (want0 rfl) rfl rfl hF (v_move hF rfl rfl) fun a hF => ?_
  refine fs_call3 (F := fun s => .tuple #[s, .int .i64 0]) (mk := fun s => .d s (ys)) (want0 rfl) rfl rfl rfl hF rfl rfl rfl good32 hS (k_spec_SwapDays (hS.get 2 rfl) (e)) fun a w v59 hF hS => ?_
  refine fr_pure (want0 rfl) rfl rfl hF (v_move hF rfl rfl) fun a hF => ?_
  refine fr_pure (want0 rfl) rfl rfl hF (v_extract hF rfl rfl rfl) fun a hF => ?_
  refine fr_pure (want0 rfl) rfl rfl hF (v_extract hF rfl rfl rfl) fun a hF => ?_
  refine fr_pure (want0 rfl) rfl rfl hF (v_assign hF rfl rfl) fun a hF => ?_
  refine fr_pure (want0 rfl) rfl rfl hF (v_assign hF rfl rfl) fun a hF => ?_
  exact wpList_nil (hq a w v59 (hF.sub ⟨rfl, rfl, rfl, rfl, rfl, rfl, rfl, rfl, rfl, trivial⟩) (hS.pick [1, 2, 3, 4, 0] rfl))
theorem rg79 {v0 v1 v5 v57 v59 : Value} {code more : List Int} {xs ys : List S43} {p u : Nat} {Q : Exit → Act → World → Prop} {w0 w : World} {a : Act} (hF : Fr 639 a [(0, v0), (1, v1), (5, v5), (55, .int .i64 ((p : Int))), (56, .int .i64 ((u : Int))), (57, v57), (58, .int .i64 (0)), (59, v59), (60, .int .i64 (0))]) (hS : St w0 w [.b v0 code, .b v1 more, .d v5 xs, .d v57 ys, .d v59 ys]) (e : Evn (fun k => impl_SwapDays.f k ys (u : Int) (p : Int)) (xs, 0))
    (hq : ∀ a' w' (v61 : Value), Fr 639 a' [(0, v0), (1, v1), (5, v5), (55, .int .i64 ((p : Int))), (56, .int .i64 ((u : Int))), (57, v57), (58, .int .i64 (0)), (59, v59), (60, .int .i64 (0)), (61, v61), (62, .int .i64 (0))] → St w0 w' [.b v0 code, .b v1 more, .d v5 xs, .d v57 ys, .d v59 ys, .d v61 xs] → Q .normal a' w') : (Code.region 79 (opsOf Tryz.f3 79) false).wp Tryz.prog Q a w := by
  conv => arg 2; arg 2; whnf
  refine wp_region_list ?_
  refine fr_pure (want0 rfl) rfl rfl hF (v_move hF rfl rfl) fun a hF => ?_
  refine fr_pure (want0 rfl) rfl rfl hF (v_move hF rfl rfl) fun a hF => ?_
  refine fr_pure (want0 rfl) rfl rfl hF (v_move hF rfl rfl) fun a hF => ?_
  refine fs_call3 (F := fun s => .tuple #[s, .int .i64 0]) (mk := fun s => .d s (xs)) (want0 rfl) rfl rfl rfl hF rfl rfl rfl good31 hS (k_impl_SwapDays (hS.get 4 rfl) (e)) fun a w v61 hF hS => ?_
  refine fr_pure (want0 rfl) rfl rfl hF (v_move hF rfl rfl) fun a hF => ?_
  refine fr_pure (want0 rfl) rfl rfl hF (v_extract hF rfl rfl rfl) fun a hF => ?_
  refine fr_pure (want0 rfl) rfl rfl hF (v_extract hF rfl rfl rfl) fun a hF => ?_
  refine fr_pure (want0 rfl) rfl rfl hF (v_assign hF rfl rfl) fun a hF => ?_
  refine fr_pure (want0 rfl) rfl rfl hF (v_assign hF rfl rfl) fun a hF => ?_
  exact wpList_nil (hq a w v61 (hF.sub ⟨rfl, rfl, rfl, rfl, rfl, rfl, rfl, rfl, rfl, rfl, rfl, trivial⟩) (hS.pick [1, 2, 3, 4, 5, 0] rfl))
theorem rg80 {v0 v1 v5 v57 v59 v61 : Value} {code more : List Int} {xs ys : List S43} {p u : Nat} {Q : Exit → Act → World → Prop} {w0 w : World} {a : Act} (hF : Fr 639 a [(0, v0), (1, v1), (5, v5), (55, .int .i64 ((p : Int))), (56, .int .i64 ((u : Int))), (57, v57), (58, .int .i64 (0)), (59, v59), (60, .int .i64 (0)), (61, v61), (62, .int .i64 (0))]) (hS : St w0 w [.b v0 code, .b v1 more, .d v5 xs, .d v57 ys, .d v59 ys, .d v61 xs]) (hx : xs.length ≤ 8) (hy : ys.length ≤ 8)
    (hq : ∀ a' w', Fr 639 a' [(4, .bool true)] → St w0 w' [.b v0 code] → Q .normal a' w') : (Code.region 80 (opsOf Tryz.f3 80) false).wp Tryz.prog Q a w := by
  conv => arg 2; arg 2; whnf
  refine wp_region_list ?_
  refine fr_pure (want0 rfl) rfl rfl hF (v_move hF rfl rfl) fun a hF => ?_
  refine fr_pure (want0 rfl) rfl rfl hF (v_move hF rfl rfl) fun a hF => ?_
  refine fr_pure (want0 rfl) rfl rfl hF (v_eql (b := true) hF rfl rfl rfl (by simp)) fun a hF => ?_
  refine fr_pure (want0 rfl) rfl rfl hF (v_move hF rfl rfl) fun a hF => ?_
  refine fr_pure (hF.want rfl rfl rfl rfl) rfl rfl hF (v_move hF rfl rfl) fun a hF => ?_
  refine fr_pure (hF.want rfl rfl rfl rfl) rfl rfl hF (v_eql (b := true) hF rfl rfl rfl (by simp)) fun a hF => ?_
  refine fr_pure (want0 rfl) rfl rfl hF (v_pick hF rfl rfl rfl) fun a hF => ?_
  refine fr_pure (want0 rfl) rfl rfl hF (v_move hF rfl rfl) fun a hF => ?_
  refine fr_pure (hF.want rfl rfl rfl rfl) rfl rfl hF (v_move hF rfl rfl) fun a hF => ?_
  refine fr_pure (hF.want rfl rfl rfl rfl) rfl rfl hF (v_move hF rfl rfl) fun a hF => ?_
  refine fv_call2 (hF.want rfl rfl rfl rfl) rfl rfl rfl hF rfl rfl good16 hS (k_spec_SameWeather (hS.get 3 rfl) (hS.get 4 rfl) (sameW _ (by omega))) fun a w hF hS => ?_
  refine fr_pure (want0 rfl) rfl rfl hF (v_pick hF rfl rfl rfl) fun a hF => ?_
  refine fr_pure (want0 rfl) rfl rfl hF (v_move hF rfl rfl) fun a hF => ?_
  refine fr_pure (hF.want rfl rfl rfl rfl) rfl rfl hF (v_move hF rfl rfl) fun a hF => ?_
  refine fr_pure (hF.want rfl rfl rfl rfl) rfl rfl hF (v_eql (b := true) hF rfl rfl rfl (by simp)) fun a hF => ?_
  refine fr_pure (want0 rfl) rfl rfl hF (v_pick hF rfl rfl rfl) fun a hF => ?_
  refine fr_pure (want0 rfl) rfl rfl hF (v_move hF rfl rfl) fun a hF => ?_
  refine fr_pure (hF.want rfl rfl rfl rfl) rfl rfl hF (v_move hF rfl rfl) fun a hF => ?_
  refine fr_pure (hF.want rfl rfl rfl rfl) rfl rfl hF (v_len24 hF rfl rfl (hS.get 5 rfl)) fun a hF => ?_
  refine fr_pure (hF.want rfl rfl rfl rfl) rfl rfl hF (v_move hF rfl rfl) fun a hF => ?_
  refine fr_pure (hF.want rfl rfl rfl rfl) rfl rfl hF (v_len24 hF rfl rfl (hS.get 2 rfl)) fun a hF => ?_
  refine fr_pure (hF.want rfl rfl rfl rfl) rfl rfl hF (v_eql (b := true) hF rfl rfl rfl (by simp)) fun a hF => ?_
  refine fr_pure (want0 rfl) rfl rfl hF (v_pick hF rfl rfl rfl) fun a hF => ?_
  refine fr_pure (want0 rfl) rfl rfl hF (v_move hF rfl rfl) fun a hF => ?_
  refine fr_pure (hF.want rfl rfl rfl rfl) rfl rfl hF (v_move hF rfl rfl) fun a hF => ?_
  refine fr_pure (hF.want rfl rfl rfl rfl) rfl rfl hF (v_move hF rfl rfl) fun a hF => ?_
  refine fv_call2 (hF.want rfl rfl rfl rfl) rfl rfl rfl hF rfl rfl good16 hS (k_spec_SameWeather (hS.get 5 rfl) (hS.get 2 rfl) (sameW _ (by omega))) fun a w hF hS => ?_
  refine fr_pure (want0 rfl) rfl rfl hF (v_pick hF rfl rfl rfl) fun a hF => ?_
  refine fr_pure (want0 rfl) rfl rfl hF (v_assign hF rfl rfl) fun a hF => ?_
  exact wpList_nil (hq a w (hF.sub ⟨rfl, trivial⟩) (hS.pick [0] rfl))
end Go.Proofs.YtibpndhcijmhpaaGreatDoor.B
