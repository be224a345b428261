/- The law's body, region by region: clips and boxes. Printed by a program of this session. -/
import Derived.Test.YtibpndhcijmhpaaGreatDoorGc
namespace Go.Proofs.YtibpndhcijmhpaaGreatDoor.B
open Go.RowKit Go.Proofs.YtibpndhcijmhpaaGreatDoorW.PrintLast Go.Proofs.YtibpndhcijmhpaaGreatDoorW.PrintWords Go.Proofs.YtibpndhcijmhpaaGreatDoor.QG
set_option linter.unusedSimpArgs false
set_option linter.unusedVariables false
set_option maxRecDepth 100000
theorem rg29 {v0 v1 v5 v21 : Value} {code more cs : List Int} {xs : List S43} {Q : Exit → Act → World → Prop} {w0 w : World} {a : Act} (hF : Fr 639 a [(0, v0), (1, v1), (5, v5), (21, v21)]) (hS : St w0 w [.b v0 code, .b v1 more, .d v5 xs, .n v21 cs])
    (hq : ∀ a' w', Fr 639 a' [(0, v0), (1, v1), (5, v5), (21, v21), (27, .int .i64 (0))] → St w0 w' [.b v0 code, .b v1 more, .d v5 xs, .n v21 cs] → Q .normal a' w') : (Code.region 29 (opsOf Tryz.f3 29) false).wp Tryz.prog Q a w := by
  conv => arg 2; arg 2; whnf
  refine wp_region_list ?_
  refine fr_pure (want0 rfl) rfl rfl hF (v_assign hF rfl rfl) fun a hF => ?_
  exact wpList_nil (hq a w (hF.sub ⟨rfl, rfl, rfl, rfl, rfl, trivial⟩) (hS.pick [0, 1, 2, 3] rfl))
theorem rg30a {v0 v1 v5 v21 : Value} {code more cs : List Int} {xs : List S43} {i : Nat} {Q : Exit → Act → World → Prop} {w0 w : World} {a : Act} (hF : Fr 639 a [(0, v0), (1, v1), (5, v5), (21, v21), (27, .int .i64 ((i : Int)))]) (hS : St w0 w [.b v0 code, .b v1 more, .d v5 xs, .n v21 cs]) (c : i < cs.length)
    (hq : ∀ a' w', Fr 639 a' [(0, v0), (1, v1), (5, v5), (21, v21), (27, .int .i64 ((i : Int))), (298, .bool true)] → St w0 w' [.b v0 code, .b v1 more, .d v5 xs, .n v21 cs] → Q .normal a' w') : (Code.region 30 (opsOf Tryz.f3 30) false).wp Tryz.prog Q a w := by
  conv => arg 2; arg 2; whnf
  refine wp_region_list ?_
  refine fr_pure (want0 rfl) rfl rfl hF (v_move hF rfl rfl) fun a hF => ?_
  refine fr_pure (want0 rfl) rfl rfl hF (v_move hF rfl rfl) fun a hF => ?_
  refine fr_pure (want0 rfl) rfl rfl hF (v_len26 hF rfl rfl (hS.get 3 rfl)) fun a hF => ?_
  refine fr_pure (want0 rfl) rfl rfl hF (v_lss (b := true) hF rfl rfl rfl (decide_eq_true (by omega))) fun a hF => ?_
  exact wpList_nil (hq a w (hF.sub ⟨rfl, rfl, rfl, rfl, rfl, rfl, trivial⟩) (hS.pick [0, 1, 2, 3] rfl))
theorem rg30b {v0 v1 v5 v21 : Value} {code more cs : List Int} {xs : List S43} {i : Nat} {Q : Exit → Act → World → Prop} {w0 w : World} {a : Act} (hF : Fr 639 a [(0, v0), (1, v1), (5, v5), (21, v21), (27, .int .i64 ((i : Int)))]) (hS : St w0 w [.b v0 code, .b v1 more, .d v5 xs, .n v21 cs]) (c : ¬ i < cs.length)
    (hq : ∀ a' w', Fr 639 a' [(0, v0), (1, v1), (5, v5), (21, v21), (27, .int .i64 ((i : Int))), (298, .bool false)] → St w0 w' [.b v0 code, .b v1 more, .d v5 xs, .n v21 cs] → Q .normal a' w') : (Code.region 30 (opsOf Tryz.f3 30) false).wp Tryz.prog Q a w := by
  conv => arg 2; arg 2; whnf
  refine wp_region_list ?_
  refine fr_pure (want0 rfl) rfl rfl hF (v_move hF rfl rfl) fun a hF => ?_
  refine fr_pure (want0 rfl) rfl rfl hF (v_move hF rfl rfl) fun a hF => ?_
  refine fr_pure (want0 rfl) rfl rfl hF (v_len26 hF rfl rfl (hS.get 3 rfl)) fun a hF => ?_
  refine fr_pure (want0 rfl) rfl rfl hF (v_lss (b := false) hF rfl rfl rfl (decide_eq_false (by omega))) fun a hF => ?_
  exact wpList_nil (hq a w (hF.sub ⟨rfl, rfl, rfl, rfl, rfl, rfl, trivial⟩) (hS.pick [0, 1, 2, 3] rfl))
theorem rg32 {v0 v1 v5 v21 : Value} {code more cs : List Int} {xs : List S43} {i : Nat} {Q : Exit → Act → World → Prop} {w0 w : World} {a : Act} (hF : Fr 639 a [(0, v0), (1, v1), (5, v5), (21, v21), (27, .int .i64 ((i : Int)))]) (hS : St w0 w [.b v0 code, .b v1 more, .d v5 xs, .n v21 cs]) (c : i < cs.length) (h0 : 0 ≤ rd cs (i : Int))
    (hq : ∀ a' w', Fr 639 a' [(0, v0), (1, v1), (5, v5), (21, v21), (27, .int .i64 ((i : Int))), (305, .bool false)] → St w0 w' [.b v0 code, .b v1 more, .d v5 xs, .n v21 cs] → Q .normal a' w') : (Code.region 32 (opsOf Tryz.f3 32) false).wp Tryz.prog Q a w := by
  conv => arg 2; arg 2; whnf
  refine wp_region_list ?_
  refine fr_pure (want0 rfl) rfl rfl hF (v_move hF rfl rfl) fun a hF => ?_
  refine fr_pure (want0 rfl) rfl rfl hF (v_move hF rfl rfl) fun a hF => ?_
  refine fr_pure (want0 rfl) rfl rfl hF (v_index26 hF rfl rfl rfl (hS.get 3 rfl) (by omega) (by omega)) fun a hF => ?_
  refine fr_pure (want0 rfl) rfl rfl hF (v_load2 (i := (i : Int)) hF rfl rfl (hS.get 3 rfl) (by omega) (by omega)) fun a hF => ?_
  refine fr_pure (want0 rfl) rfl rfl hF (v_lss (b := false) hF rfl rfl rfl (decide_eq_false (by omega))) fun a hF => ?_
  exact wpList_nil (hq a w (hF.sub ⟨rfl, rfl, rfl, rfl, rfl, rfl, trivial⟩) (hS.pick [0, 1, 2, 3] rfl))
theorem rg31 {v0 v1 v5 v21 : Value} {code more cs : List Int} {xs : List S43} {i : Nat} {Q : Exit → Act → World → Prop} {w0 w : World} {a : Act} (hF : Fr 639 a [(0, v0), (1, v1), (5, v5), (21, v21), (27, .int .i64 ((i : Int)))]) (hS : St w0 w [.b v0 code, .b v1 more, .d v5 xs, .n v21 cs]) (c : i ≤ 1000)
    (hq : ∀ a' w', Fr 639 a' [(0, v0), (1, v1), (5, v5), (21, v21), (27, .int .i64 (((i + 1 : Nat) : Int)))] → St w0 w' [.b v0 code, .b v1 more, .d v5 xs, .n v21 cs] → Q .normal a' w') : (Code.region 31 (opsOf Tryz.f3 31) false).wp Tryz.prog Q a w := by
  conv => arg 2; arg 2; whnf
  refine wp_region_list ?_
  refine fr_pure (want0 rfl) rfl rfl hF (v_move hF rfl rfl) fun a hF => ?_
  refine fr_pure (want0 rfl) rfl rfl hF (v_add (r := ((i + 1 : Nat) : Int)) hF rfl rfl rfl (up64 (by omega))) fun a hF => ?_
  refine fr_pure (want0 rfl) rfl rfl hF (v_assign hF rfl rfl) fun a hF => ?_
  exact wpList_nil (hq a w (hF.sub ⟨rfl, rfl, rfl, rfl, rfl, trivial⟩) (hS.pick [0, 1, 2, 3] rfl))
theorem rg34 {v0 v1 v5 v21 : Value} {code more cs bs : List Int} {xs : List S43} {Q : Exit → Act → World → Prop} {w0 w : World} {a : Act} (hF : Fr 639 a [(0, v0), (1, v1), (5, v5), (21, v21)]) (hS : St w0 w [.b v0 code, .b v1 more, .d v5 xs, .n v21 cs]) (e : Evn (fun k => impl_BoxesFor.f k cs 30 100) (bs, 0))
    (hq : ∀ a' w' (v28 : Value), Fr 639 a' [(0, v0), (1, v1), (5, v5), (21, v21), (28, v28), (29, .int .i64 (0))] → St w0 w' [.b v0 code, .b v1 more, .d v5 xs, .n v21 cs, .n v28 bs] → Q .normal a' w') : (Code.region 34 (opsOf Tryz.f3 34) false).wp Tryz.prog Q a w := by
  conv => arg 2; arg 2; whnf
  refine wp_region_list ?_
  refine fr_pure (want0 rfl) rfl rfl hF (v_move hF rfl rfl) fun a hF => ?_
  refine fs_call3 (F := fun s => .tuple #[s, .int .i64 0]) (mk := fun s => .n s (bs)) (want0 rfl) rfl rfl rfl hF rfl rfl rfl good23 hS (k_impl_BoxesFor (hS.get 3 rfl) (e)) fun a w v28 hF hS => ?_
  refine fr_pure (want0 rfl) rfl rfl hF (v_move hF rfl rfl) fun a hF => ?_
  refine fr_pure (want0 rfl) rfl rfl hF (v_extract hF rfl rfl rfl) fun a hF => ?_
  refine fr_pure (want0 rfl) rfl rfl hF (v_extract hF rfl rfl rfl) fun a hF => ?_
  refine fr_pure (want0 rfl) rfl rfl hF (v_assign hF rfl rfl) fun a hF => ?_
  refine fr_pure (want0 rfl) rfl rfl hF (v_assign hF rfl rfl) fun a hF => ?_
  exact wpList_nil (hq a w v28 (hF.sub ⟨rfl, rfl, rfl, rfl, rfl, rfl, trivial⟩) (hS.pick [1, 2, 3, 4, 0] rfl))
theorem rg35 {v0 v1 v5 v21 v28 : Value} {code more cs bs : List Int} {xs : List S43} {Q : Exit → Act → World → Prop} {w0 w : World} {a : Act} (hF : Fr 639 a [(0, v0), (1, v1), (5, v5), (21, v21), (28, v28), (29, .int .i64 (0))]) (hS : St w0 w [.b v0 code, .b v1 more, .d v5 xs, .n v21 cs, .n v28 bs]) (e : Evn (fun k => spec_BoxesFor.f k cs 30 100) (bs, 0))
    (hq : ∀ a' w' (v30 : Value), Fr 639 a' [(0, v0), (1, v1), (5, v5), (21, v21), (28, v28), (29, .int .i64 (0)), (30, v30), (31, .int .i64 (0))] → St w0 w' [.b v0 code, .b v1 more, .d v5 xs, .n v21 cs, .n v28 bs, .n v30 bs] → Q .normal a' w') : (Code.region 35 (opsOf Tryz.f3 35) false).wp Tryz.prog Q a w := by
  conv => arg 2; arg 2; whnf
  refine wp_region_list ?_
  refine fr_pure (want0 rfl) rfl rfl hF (v_move hF rfl rfl) fun a hF => ?_
  refine fs_call3 (F := fun s => .tuple #[s, .int .i64 0]) (mk := fun s => .n s (bs)) (want0 rfl) rfl rfl rfl hF rfl rfl rfl good24 hS (k_spec_BoxesFor (hS.get 3 rfl) (e)) fun a w v30 hF hS => ?_
  refine fr_pure (want0 rfl) rfl rfl hF (v_move hF rfl rfl) fun a hF => ?_
  refine fr_pure (want0 rfl) rfl rfl hF (v_extract hF rfl rfl rfl) fun a hF => ?_
  refine fr_pure (want0 rfl) rfl rfl hF (v_extract hF rfl rfl rfl) fun a hF => ?_
  refine fr_pure (want0 rfl) rfl rfl hF (v_assign hF rfl rfl) fun a hF => ?_
  refine fr_pure (want0 rfl) rfl rfl hF (v_assign hF rfl rfl) fun a hF => ?_
  exact wpList_nil (hq a w v30 (hF.sub ⟨rfl, rfl, rfl, rfl, rfl, rfl, rfl, rfl, trivial⟩) (hS.pick [1, 2, 3, 4, 5, 0] rfl))
theorem rg36 {v0 v1 v5 v21 v28 v30 : Value} {code more cs bs : List Int} {xs : List S43} {Q : Exit → Act → World → Prop} {w0 w : World} {a : Act} (hF : Fr 639 a [(0, v0), (1, v1), (5, v5), (21, v21), (28, v28), (29, .int .i64 (0)), (30, v30), (31, .int .i64 (0))]) (hS : St w0 w [.b v0 code, .b v1 more, .d v5 xs, .n v21 cs, .n v28 bs, .n v30 bs]) (hb : bs.length = cs.length) (hc : cs.length ≤ 30)
    (hq : ∀ a' w', Fr 639 a' [(0, v0), (1, v1), (5, v5), (21, v21), (30, v30), (335, .bool false)] → St w0 w' [.b v0 code, .b v1 more, .d v5 xs, .n v21 cs, .n v30 bs] → Q .normal a' w') : (Code.region 36 (opsOf Tryz.f3 36) false).wp Tryz.prog Q a w := by
  conv => arg 2; arg 2; whnf
  refine wp_region_list ?_
  refine fr_pure (want0 rfl) rfl rfl hF (v_move hF rfl rfl) fun a hF => ?_
  refine fr_pure (want0 rfl) rfl rfl hF (v_move hF rfl rfl) fun a hF => ?_
  refine fr_pure (want0 rfl) rfl rfl hF (v_neq (b := false) hF rfl rfl rfl (by simp)) fun a hF => ?_
  refine fr_pure (want0 rfl) rfl rfl hF (v_move hF rfl rfl) fun a hF => ?_
  refine fr_pure (hF.want rfl rfl rfl rfl) rfl rfl hF (v_move hF rfl rfl) fun a hF => ?_
  refine fr_pure (hF.want rfl rfl rfl rfl) rfl rfl hF (v_neq (b := false) hF rfl rfl rfl (by simp)) fun a hF => ?_
  refine fr_pure (want0 rfl) rfl rfl hF (v_pick hF rfl rfl rfl) fun a hF => ?_
  refine fr_pure (want0 rfl) rfl rfl hF (v_move hF rfl rfl) fun a hF => ?_
  refine fr_pure (hF.want rfl rfl rfl rfl) rfl rfl hF (v_move hF rfl rfl) fun a hF => ?_
  refine fr_pure (hF.want rfl rfl rfl rfl) rfl rfl hF (v_move hF rfl rfl) fun a hF => ?_
  refine fv_call2 (hF.want rfl rfl rfl rfl) rfl rfl rfl hF rfl rfl good19 hS (k_spec_SameNumbers (hS.get 4 rfl) (hS.get 5 rfl) (sameN _ (by omega))) fun a w hF hS => ?_
  refine fr_pure (hF.want rfl rfl rfl rfl) rfl rfl hF (v_not hF rfl rfl rfl) fun a hF => ?_
  refine fr_pure (want0 rfl) rfl rfl hF (v_pick hF rfl rfl rfl) fun a hF => ?_
  refine fr_pure (want0 rfl) rfl rfl hF (v_move hF rfl rfl) fun a hF => ?_
  refine fr_pure (hF.want rfl rfl rfl rfl) rfl rfl hF (v_move hF rfl rfl) fun a hF => ?_
  refine fr_pure (hF.want rfl rfl rfl rfl) rfl rfl hF (v_len26 hF rfl rfl (hS.get 5 rfl)) fun a hF => ?_
  refine fr_pure (hF.want rfl rfl rfl rfl) rfl rfl hF (v_move hF rfl rfl) fun a hF => ?_
  refine fr_pure (hF.want rfl rfl rfl rfl) rfl rfl hF (v_len26 hF rfl rfl (hS.get 3 rfl)) fun a hF => ?_
  refine fr_pure (hF.want rfl rfl rfl rfl) rfl rfl hF (v_neq (b := false) hF rfl rfl rfl (by simp [hb])) fun a hF => ?_
  refine fr_pure (want0 rfl) rfl rfl hF (v_pick hF rfl rfl rfl) fun a hF => ?_
  exact wpList_nil (hq a w (hF.sub ⟨rfl, rfl, rfl, rfl, rfl, rfl, trivial⟩) (hS.pick [0, 1, 2, 3, 5] rfl))
theorem rg38 {v0 v1 v5 v21 v30 : Value} {code more cs bs : List Int} {xs : List S43} {Q : Exit → Act → World → Prop} {w0 w : World} {a : Act} (hF : Fr 639 a [(0, v0), (1, v1), (5, v5), (21, v21), (30, v30)]) (hS : St w0 w [.b v0 code, .b v1 more, .d v5 xs, .n v21 cs, .n v30 bs])
    (hq : ∀ a' w', Fr 639 a' [(0, v0), (1, v1), (5, v5), (21, v21), (30, v30), (32, .int .i64 (0))] → St w0 w' [.b v0 code, .b v1 more, .d v5 xs, .n v21 cs, .n v30 bs] → Q .normal a' w') : (Code.region 38 (opsOf Tryz.f3 38) false).wp Tryz.prog Q a w := by
  conv => arg 2; arg 2; whnf
  refine wp_region_list ?_
  refine fr_pure (want0 rfl) rfl rfl hF (v_assign hF rfl rfl) fun a hF => ?_
  exact wpList_nil (hq a w (hF.sub ⟨rfl, rfl, rfl, rfl, rfl, rfl, trivial⟩) (hS.pick [0, 1, 2, 3, 4] rfl))
theorem rg39a {v0 v1 v5 v21 v30 : Value} {code more cs bs : List Int} {xs : List S43} {i : Nat} {Q : Exit → Act → World → Prop} {w0 w : World} {a : Act} (hF : Fr 639 a [(0, v0), (1, v1), (5, v5), (21, v21), (30, v30), (32, .int .i64 ((i : Int)))]) (hS : St w0 w [.b v0 code, .b v1 more, .d v5 xs, .n v21 cs, .n v30 bs]) (c : i < cs.length)
    (hq : ∀ a' w', Fr 639 a' [(0, v0), (1, v1), (5, v5), (21, v21), (30, v30), (32, .int .i64 ((i : Int))), (339, .bool true)] → St w0 w' [.b v0 code, .b v1 more, .d v5 xs, .n v21 cs, .n v30 bs] → Q .normal a' w') : (Code.region 39 (opsOf Tryz.f3 39) false).wp Tryz.prog Q a w := by
  conv => arg 2; arg 2; whnf
  refine wp_region_list ?_
  refine fr_pure (want0 rfl) rfl rfl hF (v_move hF rfl rfl) fun a hF => ?_
  refine fr_pure (want0 rfl) rfl rfl hF (v_move hF rfl rfl) fun a hF => ?_
  refine fr_pure (want0 rfl) rfl rfl hF (v_len26 hF rfl rfl (hS.get 3 rfl)) fun a hF => ?_
  refine fr_pure (want0 rfl) rfl rfl hF (v_lss (b := true) hF rfl rfl rfl (decide_eq_true (by omega))) fun a hF => ?_
  exact wpList_nil (hq a w (hF.sub ⟨rfl, rfl, rfl, rfl, rfl, rfl, rfl, trivial⟩) (hS.pick [0, 1, 2, 3, 4] rfl))
theorem rg39b {v0 v1 v5 v21 v30 : Value} {code more cs bs : List Int} {xs : List S43} {i : Nat} {Q : Exit → Act → World → Prop} {w0 w : World} {a : Act} (hF : Fr 639 a [(0, v0), (1, v1), (5, v5), (21, v21), (30, v30), (32, .int .i64 ((i : Int)))]) (hS : St w0 w [.b v0 code, .b v1 more, .d v5 xs, .n v21 cs, .n v30 bs]) (c : ¬ i < cs.length)
    (hq : ∀ a' w', Fr 639 a' [(0, v0), (1, v1), (5, v5), (21, v21), (30, v30), (32, .int .i64 ((i : Int))), (339, .bool false)] → St w0 w' [.b v0 code, .b v1 more, .d v5 xs, .n v21 cs, .n v30 bs] → Q .normal a' w') : (Code.region 39 (opsOf Tryz.f3 39) false).wp Tryz.prog Q a w := by
  conv => arg 2; arg 2; whnf
  refine wp_region_list ?_
  refine fr_pure (want0 rfl) rfl rfl hF (v_move hF rfl rfl) fun a hF => ?_
  refine fr_pure (want0 rfl) rfl rfl hF (v_move hF rfl rfl) fun a hF => ?_
  refine fr_pure (want0 rfl) rfl rfl hF (v_len26 hF rfl rfl (hS.get 3 rfl)) fun a hF => ?_
  refine fr_pure (want0 rfl) rfl rfl hF (v_lss (b := false) hF rfl rfl rfl (decide_eq_false (by omega))) fun a hF => ?_
  exact wpList_nil (hq a w (hF.sub ⟨rfl, rfl, rfl, rfl, rfl, rfl, rfl, trivial⟩) (hS.pick [0, 1, 2, 3, 4] rfl))
theorem rg41 {v0 v1 v5 v21 v30 : Value} {code more cs bs : List Int} {xs : List S43} {i : Nat} {Q : Exit → Act → World → Prop} {w0 w : World} {a : Act} (hF : Fr 639 a [(0, v0), (1, v1), (5, v5), (21, v21), (30, v30), (32, .int .i64 ((i : Int)))]) (hS : St w0 w [.b v0 code, .b v1 more, .d v5 xs, .n v21 cs, .n v30 bs]) (c : i < cs.length) (hb : bs.length = cs.length) (h0 : 0 ≤ rd cs (i : Int)) (h1 : rd cs (i : Int) ≤ 200) (hx : rd bs (i : Int) = (rd cs (i : Int) * 30 + 99) / 100)
    (hq : ∀ a', Fr 639 a' [(0, v0), (1, v1), (5, v5), (21, v21), (30, v30), (32, .int .i64 ((i : Int))), (366, .bool false)] → St w0 { w with drawn := w.drawn + 1 } [.b v0 code, .b v1 more, .d v5 xs, .n v21 cs, .n v30 bs] → Q .normal a' { w with drawn := w.drawn + 1 }) : (Code.region 41 (opsOf Tryz.f3 41) true).wp Tryz.prog Q a w := by
  conv => arg 2; arg 2; whnf
  replace hS := hS.drew
  refine wp_region_still (by kernel_rfl) (by kernel_rfl) ?_
  refine fs_pure (want0 rfl) rfl rfl hF (v_move hF rfl rfl) fun a hF => ?_
  refine fs_pure (want0 rfl) rfl rfl hF (v_move hF rfl rfl) fun a hF => ?_
  refine fs_pure (want0 rfl) rfl rfl hF (v_index26 hF rfl rfl rfl (hS.get 4 rfl) (by omega) (by omega)) fun a hF => ?_
  refine fs_pure (want0 rfl) rfl rfl hF (v_load2 (i := (i : Int)) hF rfl rfl (hS.get 4 rfl) (by omega) (by omega)) fun a hF => ?_
  refine fs_pure (want0 rfl) rfl rfl hF (v_mul (r := rd bs (i : Int) * 100) hF rfl rfl rfl (wrap64_in (by omega) (by omega))) fun a hF => ?_
  refine fs_pure (want0 rfl) rfl rfl hF (v_move hF rfl rfl) fun a hF => ?_
  refine fs_pure (want0 rfl) rfl rfl hF (v_move hF rfl rfl) fun a hF => ?_
  refine fs_pure (want0 rfl) rfl rfl hF (v_index26 hF rfl rfl rfl (hS.get 3 rfl) (by omega) (by omega)) fun a hF => ?_
  refine fs_pure (want0 rfl) rfl rfl hF (v_load2 (i := (i : Int)) hF rfl rfl (hS.get 3 rfl) (by omega) (by omega)) fun a hF => ?_
  refine fs_pure (want0 rfl) rfl rfl hF (v_mul (r := 30 * rd cs (i : Int)) hF rfl rfl rfl (wrap64_in (by omega) (by omega))) fun a hF => ?_
  refine fs_pure (want0 rfl) rfl rfl hF (v_lss (b := false) hF rfl rfl rfl (decide_eq_false (by omega))) fun a hF => ?_
  refine fs_pure (want0 rfl) rfl rfl hF (v_move hF rfl rfl) fun a hF => ?_
  refine fs_pure (hF.want rfl rfl rfl rfl) rfl rfl hF (v_move hF rfl rfl) fun a hF => ?_
  refine fs_pure (hF.want rfl rfl rfl rfl) rfl rfl hF (v_move hF rfl rfl) fun a hF => ?_
  refine fs_pure (hF.want rfl rfl rfl rfl) rfl rfl hF (v_index26 hF rfl rfl rfl (hS.get 4 rfl) (by omega) (by omega)) fun a hF => ?_
  refine fs_pure (hF.want rfl rfl rfl rfl) rfl rfl hF (v_load2 (i := (i : Int)) hF rfl rfl (hS.get 4 rfl) (by omega) (by omega)) fun a hF => ?_
  refine fs_pure (hF.want rfl rfl rfl rfl) rfl rfl hF (v_mul (r := rd bs (i : Int) * 100) hF rfl rfl rfl (wrap64_in (by omega) (by omega))) fun a hF => ?_
  refine fs_pure (hF.want rfl rfl rfl rfl) rfl rfl hF (v_move hF rfl rfl) fun a hF => ?_
  refine fs_pure (hF.want rfl rfl rfl rfl) rfl rfl hF (v_move hF rfl rfl) fun a hF => ?_
  refine fs_pure (hF.want rfl rfl rfl rfl) rfl rfl hF (v_index26 hF rfl rfl rfl (hS.get 3 rfl) (by omega) (by omega)) fun a hF => ?_
  refine fs_pure (hF.want rfl rfl rfl rfl) rfl rfl hF (v_load2 (i := (i : Int)) hF rfl rfl (hS.get 3 rfl) (by omega) (by omega)) fun a hF => ?_
  refine fs_pure (hF.want rfl rfl rfl rfl) rfl rfl hF (v_mul (r := 30 * rd cs (i : Int)) hF rfl rfl rfl (wrap64_in (by omega) (by omega))) fun a hF => ?_
  refine fs_pure (hF.want rfl rfl rfl rfl) rfl rfl hF (v_add (r := 30 * rd cs (i : Int) + 100) hF rfl rfl rfl (wrap64_in (by omega) (by omega))) fun a hF => ?_
  refine fs_pure (hF.want rfl rfl rfl rfl) rfl rfl hF (v_geq (b := false) hF rfl rfl rfl (decide_eq_false (by omega))) fun a hF => ?_
  refine fs_pure (want0 rfl) rfl rfl hF (v_pick hF rfl rfl rfl) fun a hF => ?_
  exact wpStill_nil (hq a (hF.sub ⟨rfl, rfl, rfl, rfl, rfl, rfl, rfl, trivial⟩) (hS.pick [0, 1, 2, 3, 4] rfl))
theorem rg40 {v0 v1 v5 v21 v30 : Value} {code more cs bs : List Int} {xs : List S43} {i : Nat} {Q : Exit → Act → World → Prop} {w0 w : World} {a : Act} (hF : Fr 639 a [(0, v0), (1, v1), (5, v5), (21, v21), (30, v30), (32, .int .i64 ((i : Int)))]) (hS : St w0 w [.b v0 code, .b v1 more, .d v5 xs, .n v21 cs, .n v30 bs]) (c : i ≤ 1000)
    (hq : ∀ a' w', Fr 639 a' [(0, v0), (1, v1), (5, v5), (21, v21), (30, v30), (32, .int .i64 (((i + 1 : Nat) : Int)))] → St w0 w' [.b v0 code, .b v1 more, .d v5 xs, .n v21 cs, .n v30 bs] → Q .normal a' w') : (Code.region 40 (opsOf Tryz.f3 40) false).wp Tryz.prog Q a w := by
  conv => arg 2; arg 2; whnf
  refine wp_region_list ?_
  refine fr_pure (want0 rfl) rfl rfl hF (v_move hF rfl rfl) fun a hF => ?_
  refine fr_pure (want0 rfl) rfl rfl hF (v_add (r := ((i + 1 : Nat) : Int)) hF rfl rfl rfl (up64 (by omega))) fun a hF => ?_
  refine fr_pure (want0 rfl) rfl rfl hF (v_assign hF rfl rfl) fun a hF => ?_
  exact wpList_nil (hq a w (hF.sub ⟨rfl, rfl, rfl, rfl, rfl, rfl, trivial⟩) (hS.pick [0, 1, 2, 3, 4] rfl))
end Go.Proofs.YtibpndhcijmhpaaGreatDoor.B
