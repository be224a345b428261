/- The law's body, region by region: spells, wettest days, seeds. Printed by a program of this session. -/
import Derived.Test.YtibpndhcijmhpaaGreatDoorGc
namespace Go.Proofs.YtibpndhcijmhpaaGreatDoor.B
open Go.RowKit Go.Proofs.YtibpndhcijmhpaaGreatDoorW.PrintLast Go.Proofs.YtibpndhcijmhpaaGreatDoorW.PrintWords Go.Proofs.YtibpndhcijmhpaaGreatDoor.QG
set_option linter.unusedSimpArgs false
set_option linter.unusedVariables false
set_option maxRecDepth 100000
theorem rg43 {v0 v1 v5 : Value} {code more : List Int} {xs : List S43} {b q c : Nat} {Q : Exit → Act → World → Prop} {w0 w : World} {a : Act} (hF : Fr 639 a [(0, v0), (1, v1), (5, v5)]) (hS : St w0 w [.b v0 code, .b v1 more, .d v5 xs]) (e : Evn (fun k => impl_DriestSpell.f k xs) ((b : Int), (q : Int), (c : Int)))
    (hq : ∀ a' w', Fr 639 a' [(0, v0), (1, v1), (5, v5), (33, .int .i64 ((b : Int))), (34, .int .i64 ((q : Int))), (35, .int .i64 ((c : Int)))] → St w0 w' [.b v0 code, .b v1 more, .d v5 xs] → Q .normal a' w') : (Code.region 43 (opsOf Tryz.f3 43) false).wp Tryz.prog Q a w := by
  conv => arg 2; arg 2; whnf
  refine wp_region_list ?_
  refine fr_pure (want0 rfl) rfl rfl hF (v_move hF rfl rfl) fun a hF => ?_
  refine fv_call1 (want0 rfl) rfl rfl rfl hF rfl good25 hS (k_impl_DriestSpell (hS.get 2 rfl) (e)) fun a w hF hS => ?_
  refine fr_pure (want0 rfl) rfl rfl hF (v_move hF rfl rfl) fun a hF => ?_
  refine fr_pure (want0 rfl) rfl rfl hF (v_extract hF rfl rfl rfl) fun a hF => ?_
  refine fr_pure (want0 rfl) rfl rfl hF (v_extract hF rfl rfl rfl) fun a hF => ?_
  refine fr_pure (want0 rfl) rfl rfl hF (v_extract hF rfl rfl rfl) fun a hF => ?_
  refine fr_pure (want0 rfl) rfl rfl hF (v_assign hF rfl rfl) fun a hF => ?_
  refine fr_pure (want0 rfl) rfl rfl hF (v_assign hF rfl rfl) fun a hF => ?_
  refine fr_pure (want0 rfl) rfl rfl hF (v_assign hF rfl rfl) fun a hF => ?_
  exact wpList_nil (hq a w (hF.sub ⟨rfl, rfl, rfl, rfl, rfl, rfl, trivial⟩) (hS.pick [0, 1, 2] rfl))
theorem rg44 {v0 v1 v5 : Value} {code more : List Int} {xs : List S43} {b q c : Nat} {Q : Exit → Act → World → Prop} {w0 w : World} {a : Act} (hF : Fr 639 a [(0, v0), (1, v1), (5, v5), (33, .int .i64 ((b : Int))), (34, .int .i64 ((q : Int))), (35, .int .i64 ((c : Int)))]) (hS : St w0 w [.b v0 code, .b v1 more, .d v5 xs]) (e : Evn (fun k => spec_DriestSpell.f k xs) ((b : Int), (q : Int), (c : Int)))
    (hq : ∀ a' w', Fr 639 a' [(0, v0), (1, v1), (5, v5), (33, .int .i64 ((b : Int))), (34, .int .i64 ((q : Int))), (35, .int .i64 ((c : Int))), (36, .int .i64 ((b : Int))), (37, .int .i64 ((q : Int))), (38, .int .i64 ((c : Int)))] → St w0 w' [.b v0 code, .b v1 more, .d v5 xs] → Q .normal a' w') : (Code.region 44 (opsOf Tryz.f3 44) false).wp Tryz.prog Q a w := by
  conv => arg 2; arg 2; whnf
  refine wp_region_list ?_
  refine fr_pure (want0 rfl) rfl rfl hF (v_move hF rfl rfl) fun a hF => ?_
  refine fv_call1 (want0 rfl) rfl rfl rfl hF rfl good26 hS (k_spec_DriestSpell (hS.get 2 rfl) (e)) fun a w hF hS => ?_
  refine fr_pure (want0 rfl) rfl rfl hF (v_move hF rfl rfl) fun a hF => ?_
  refine fr_pure (want0 rfl) rfl rfl hF (v_extract hF rfl rfl rfl) fun a hF => ?_
  refine fr_pure (want0 rfl) rfl rfl hF (v_extract hF rfl rfl rfl) fun a hF => ?_
  refine fr_pure (want0 rfl) rfl rfl hF (v_extract hF rfl rfl rfl) fun a hF => ?_
  refine fr_pure (want0 rfl) rfl rfl hF (v_assign hF rfl rfl) fun a hF => ?_
  refine fr_pure (want0 rfl) rfl rfl hF (v_assign hF rfl rfl) fun a hF => ?_
  refine fr_pure (want0 rfl) rfl rfl hF (v_assign hF rfl rfl) fun a hF => ?_
  exact wpList_nil (hq a w (hF.sub ⟨rfl, rfl, rfl, rfl, rfl, rfl, rfl, rfl, rfl, trivial⟩) (hS.pick [0, 1, 2] rfl))
theorem rg45 {v0 v1 v5 : Value} {code more : List Int} {xs : List S43} {b q c dd : Nat} {pp : Int} {Q : Exit → Act → World → Prop} {w0 w : World} {a : Act} (hF : Fr 639 a [(0, v0), (1, v1), (5, v5), (33, .int .i64 ((b : Int))), (34, .int .i64 ((q : Int))), (35, .int .i64 ((c : Int))), (36, .int .i64 ((b : Int))), (37, .int .i64 ((q : Int))), (38, .int .i64 ((c : Int)))]) (hS : St w0 w [.b v0 code, .b v1 more, .d v5 xs]) (e : spec_P6Pick.f more 4 = some pp) (e2 : wrap64 (1 + pp) = (dd : Int))
    (hq : ∀ a' w', Fr 639 a' [(0, v0), (1, v1), (5, v5), (33, .int .i64 ((b : Int))), (34, .int .i64 ((q : Int))), (35, .int .i64 ((c : Int))), (36, .int .i64 ((b : Int))), (37, .int .i64 ((q : Int))), (38, .int .i64 ((c : Int))), (39, .int .i64 ((dd : Int)))] → St w0 w' [.b v0 code, .b v1 more, .d v5 xs] → Q .normal a' w') : (Code.region 45 (opsOf Tryz.f3 45) false).wp Tryz.prog Q a w := by
  conv => arg 2; arg 2; whnf
  refine wp_region_list ?_
  refine fr_pure (want0 rfl) rfl rfl hF (v_move hF rfl rfl) fun a hF => ?_
  refine fv_call2 (want0 rfl) rfl rfl rfl hF rfl rfl good7 hS (k_spec_P6Pick (hS.get 1 rfl) (e)) fun a w hF hS => ?_
  refine fr_pure (want0 rfl) rfl rfl hF (v_add (r := (dd : Int)) hF rfl rfl rfl (e2)) fun a hF => ?_
  refine fr_pure (want0 rfl) rfl rfl hF (v_assign hF rfl rfl) fun a hF => ?_
  exact wpList_nil (hq a w (hF.sub ⟨rfl, rfl, rfl, rfl, rfl, rfl, rfl, rfl, rfl, rfl, trivial⟩) (hS.pick [0, 1, 2] rfl))
theorem rg46 {v0 v1 v5 : Value} {code more : List Int} {xs : List S43} {b q c dd : Nat} {a_ s_ kn : Int} {Q : Exit → Act → World → Prop} {w0 w : World} {a : Act} (hF : Fr 639 a [(0, v0), (1, v1), (5, v5), (33, .int .i64 ((b : Int))), (34, .int .i64 ((q : Int))), (35, .int .i64 ((c : Int))), (36, .int .i64 ((b : Int))), (37, .int .i64 ((q : Int))), (38, .int .i64 ((c : Int))), (39, .int .i64 ((dd : Int)))]) (hS : St w0 w [.b v0 code, .b v1 more, .d v5 xs]) (e : Evn (fun k => impl_WettestDays.f k xs (dd : Int)) (a_, s_, kn))
    (hq : ∀ a' w', Fr 639 a' [(0, v0), (1, v1), (5, v5), (33, .int .i64 ((b : Int))), (34, .int .i64 ((q : Int))), (35, .int .i64 ((c : Int))), (36, .int .i64 ((b : Int))), (37, .int .i64 ((q : Int))), (38, .int .i64 ((c : Int))), (39, .int .i64 ((dd : Int))), (40, .int .i64 (a_)), (41, .int .i64 (s_)), (42, .int .i64 (kn))] → St w0 w' [.b v0 code, .b v1 more, .d v5 xs] → Q .normal a' w') : (Code.region 46 (opsOf Tryz.f3 46) false).wp Tryz.prog Q a w := by
  conv => arg 2; arg 2; whnf
  refine wp_region_list ?_
  refine fr_pure (want0 rfl) rfl rfl hF (v_move hF rfl rfl) fun a hF => ?_
  refine fr_pure (want0 rfl) rfl rfl hF (v_move hF rfl rfl) fun a hF => ?_
  refine fv_call2 (want0 rfl) rfl rfl rfl hF rfl rfl good27 hS (k_impl_WettestDays (hS.get 2 rfl) (e)) fun a w hF hS => ?_
  refine fr_pure (want0 rfl) rfl rfl hF (v_move hF rfl rfl) fun a hF => ?_
  refine fr_pure (want0 rfl) rfl rfl hF (v_extract hF rfl rfl rfl) fun a hF => ?_
  refine fr_pure (want0 rfl) rfl rfl hF (v_extract hF rfl rfl rfl) fun a hF => ?_
  refine fr_pure (want0 rfl) rfl rfl hF (v_extract hF rfl rfl rfl) fun a hF => ?_
  refine fr_pure (want0 rfl) rfl rfl hF (v_assign hF rfl rfl) fun a hF => ?_
  refine fr_pure (want0 rfl) rfl rfl hF (v_assign hF rfl rfl) fun a hF => ?_
  refine fr_pure (want0 rfl) rfl rfl hF (v_assign hF rfl rfl) fun a hF => ?_
  exact wpList_nil (hq a w (hF.sub ⟨rfl, rfl, rfl, rfl, rfl, rfl, rfl, rfl, rfl, rfl, rfl, rfl, rfl, trivial⟩) (hS.pick [0, 1, 2] rfl))
theorem rg47 {v0 v1 v5 : Value} {code more : List Int} {xs : List S43} {b q c dd : Nat} {a_ s_ kn : Int} {Q : Exit → Act → World → Prop} {w0 w : World} {a : Act} (hF : Fr 639 a [(0, v0), (1, v1), (5, v5), (33, .int .i64 ((b : Int))), (34, .int .i64 ((q : Int))), (35, .int .i64 ((c : Int))), (36, .int .i64 ((b : Int))), (37, .int .i64 ((q : Int))), (38, .int .i64 ((c : Int))), (39, .int .i64 ((dd : Int))), (40, .int .i64 (a_)), (41, .int .i64 (s_)), (42, .int .i64 (kn))]) (hS : St w0 w [.b v0 code, .b v1 more, .d v5 xs]) (e : Evn (fun k => spec_WettestDays.f k xs (dd : Int)) (a_, s_, kn))
    (hq : ∀ a' w', Fr 639 a' [(0, v0), (1, v1), (5, v5), (33, .int .i64 ((b : Int))), (34, .int .i64 ((q : Int))), (35, .int .i64 ((c : Int))), (36, .int .i64 ((b : Int))), (37, .int .i64 ((q : Int))), (38, .int .i64 ((c : Int))), (39, .int .i64 ((dd : Int))), (40, .int .i64 (a_)), (41, .int .i64 (s_)), (42, .int .i64 (kn)), (43, .int .i64 (a_)), (44, .int .i64 (s_)), (45, .int .i64 (kn))] → St w0 w' [.b v0 code, .b v1 more, .d v5 xs] → Q .normal a' w') : (Code.region 47 (opsOf Tryz.f3 47) false).wp Tryz.prog Q a w := by
  conv => arg 2; arg 2; whnf
  refine wp_region_list ?_
  refine fr_pure (want0 rfl) rfl rfl hF (v_move hF rfl rfl) fun a hF => ?_
  refine fr_pure (want0 rfl) rfl rfl hF (v_move hF rfl rfl) fun a hF => ?_
  refine fv_call2 (want0 rfl) rfl rfl rfl hF rfl rfl good28 hS (k_spec_WettestDays (hS.get 2 rfl) (e)) fun a w hF hS => ?_
  refine fr_pure (want0 rfl) rfl rfl hF (v_move hF rfl rfl) fun a hF => ?_
  refine fr_pure (want0 rfl) rfl rfl hF (v_extract hF rfl rfl rfl) fun a hF => ?_
  refine fr_pure (want0 rfl) rfl rfl hF (v_extract hF rfl rfl rfl) fun a hF => ?_
  refine fr_pure (want0 rfl) rfl rfl hF (v_extract hF rfl rfl rfl) fun a hF => ?_
  refine fr_pure (want0 rfl) rfl rfl hF (v_assign hF rfl rfl) fun a hF => ?_
  refine fr_pure (want0 rfl) rfl rfl hF (v_assign hF rfl rfl) fun a hF => ?_
  refine fr_pure (want0 rfl) rfl rfl hF (v_assign hF rfl rfl) fun a hF => ?_
  exact wpList_nil (hq a w (hF.sub ⟨rfl, rfl, rfl, rfl, rfl, rfl, rfl, rfl, rfl, rfl, rfl, rfl, rfl, rfl, rfl, rfl, trivial⟩) (hS.pick [0, 1, 2] rfl))
theorem rg48 {v0 v1 v5 : Value} {code more ss : List Int} {xs : List S43} {b q c dd : Nat} {a_ s_ kn : Int} {Q : Exit → Act → World → Prop} {w0 w : World} {a : Act} (hF : Fr 639 a [(0, v0), (1, v1), (5, v5), (33, .int .i64 ((b : Int))), (34, .int .i64 ((q : Int))), (35, .int .i64 ((c : Int))), (36, .int .i64 ((b : Int))), (37, .int .i64 ((q : Int))), (38, .int .i64 ((c : Int))), (39, .int .i64 ((dd : Int))), (40, .int .i64 (a_)), (41, .int .i64 (s_)), (42, .int .i64 (kn)), (43, .int .i64 (a_)), (44, .int .i64 (s_)), (45, .int .i64 (kn))]) (hS : St w0 w [.b v0 code, .b v1 more, .d v5 xs]) (e : Evn (fun k => impl_SeedDays.f k xs (dd : Int) 5 10) (ss, 0))
    (hq : ∀ a' w' (v46 : Value), Fr 639 a' [(0, v0), (1, v1), (5, v5), (33, .int .i64 ((b : Int))), (34, .int .i64 ((q : Int))), (35, .int .i64 ((c : Int))), (36, .int .i64 ((b : Int))), (37, .int .i64 ((q : Int))), (38, .int .i64 ((c : Int))), (39, .int .i64 ((dd : Int))), (40, .int .i64 (a_)), (41, .int .i64 (s_)), (42, .int .i64 (kn)), (43, .int .i64 (a_)), (44, .int .i64 (s_)), (45, .int .i64 (kn)), (46, v46), (47, .int .i64 (0))] → St w0 w' [.b v0 code, .b v1 more, .d v5 xs, .n v46 ss] → Q .normal a' w') : (Code.region 48 (opsOf Tryz.f3 48) false).wp Tryz.prog Q a w := by
  conv => arg 2; arg 2; whnf
  refine wp_region_list ?_
  refine fr_pure (want0 rfl) rfl rfl hF (v_move hF rfl rfl) fun a hF => ?_
  refine fr_pure (want0 rfl) rfl rfl hF (v_move hF rfl rfl) fun a hF => ?_
  refine fs_call4 (F := fun s => .tuple #[s, .int .i64 0]) (mk := fun s => .n s (ss)) (want0 rfl) rfl rfl rfl hF rfl rfl rfl rfl good29 hS (k_impl_SeedDays (hS.get 2 rfl) (e)) fun a w v46 hF hS => ?_
  refine fr_pure (want0 rfl) rfl rfl hF (v_move hF rfl rfl) fun a hF => ?_
  refine fr_pure (want0 rfl) rfl rfl hF (v_extract hF rfl rfl rfl) fun a hF => ?_
  refine fr_pure (want0 rfl) rfl rfl hF (v_extract hF rfl rfl rfl) fun a hF => ?_
  refine fr_pure (want0 rfl) rfl rfl hF (v_assign hF rfl rfl) fun a hF => ?_
  refine fr_pure (want0 rfl) rfl rfl hF (v_assign hF rfl rfl) fun a hF => ?_
  exact wpList_nil (hq a w v46 (hF.sub ⟨rfl, rfl, rfl, rfl, rfl, rfl, rfl, rfl, rfl, rfl, rfl, rfl, rfl, rfl, rfl, rfl, rfl, rfl, trivial⟩) (hS.pick [1, 2, 3, 0] rfl))
theorem rg49 {v0 v1 v5 v46 : Value} {code more ss : List Int} {xs : List S43} {b q c dd : Nat} {a_ s_ kn : Int} {Q : Exit → Act → World → Prop} {w0 w : World} {a : Act} (hF : Fr 639 a [(0, v0), (1, v1), (5, v5), (33, .int .i64 ((b : Int))), (34, .int .i64 ((q : Int))), (35, .int .i64 ((c : Int))), (36, .int .i64 ((b : Int))), (37, .int .i64 ((q : Int))), (38, .int .i64 ((c : Int))), (39, .int .i64 ((dd : Int))), (40, .int .i64 (a_)), (41, .int .i64 (s_)), (42, .int .i64 (kn)), (43, .int .i64 (a_)), (44, .int .i64 (s_)), (45, .int .i64 (kn)), (46, v46), (47, .int .i64 (0))]) (hS : St w0 w [.b v0 code, .b v1 more, .d v5 xs, .n v46 ss]) (e : Evn (fun k => spec_SeedDays.f k xs (dd : Int) 5 10) (ss, 0))
    (hq : ∀ a' w' (v48 : Value), Fr 639 a' [(0, v0), (1, v1), (5, v5), (33, .int .i64 ((b : Int))), (34, .int .i64 ((q : Int))), (35, .int .i64 ((c : Int))), (36, .int .i64 ((b : Int))), (37, .int .i64 ((q : Int))), (38, .int .i64 ((c : Int))), (39, .int .i64 ((dd : Int))), (40, .int .i64 (a_)), (41, .int .i64 (s_)), (42, .int .i64 (kn)), (43, .int .i64 (a_)), (44, .int .i64 (s_)), (45, .int .i64 (kn)), (46, v46), (47, .int .i64 (0)), (48, v48), (49, .int .i64 (0))] → St w0 w' [.b v0 code, .b v1 more, .d v5 xs, .n v46 ss, .n v48 ss] → Q .normal a' w') : (Code.region 49 (opsOf Tryz.f3 49) false).wp Tryz.prog Q a w := by
  conv => arg 2; arg 2; whnf
  refine wp_region_list ?_
  refine fr_pure (want0 rfl) rfl rfl hF (v_move hF rfl rfl) fun a hF => ?_
  refine fr_pure (want0 rfl) rfl rfl hF (v_move hF rfl rfl) fun a hF => ?_
  refine fs_call4 (F := fun s => .tuple #[s, .int .i64 0]) (mk := fun s => .n s (ss)) (want0 rfl) rfl rfl rfl hF rfl rfl rfl rfl good30 hS (k_spec_SeedDays (hS.get 2 rfl) (e)) fun a w v48 hF hS => ?_
  refine fr_pure (want0 rfl) rfl rfl hF (v_move hF rfl rfl) fun a hF => ?_
  refine fr_pure (want0 rfl) rfl rfl hF (v_extract hF rfl rfl rfl) fun a hF => ?_
  refine fr_pure (want0 rfl) rfl rfl hF (v_extract hF rfl rfl rfl) fun a hF => ?_
  refine fr_pure (want0 rfl) rfl rfl hF (v_assign hF rfl rfl) fun a hF => ?_
  refine fr_pure (want0 rfl) rfl rfl hF (v_assign hF rfl rfl) fun a hF => ?_
  exact wpList_nil (hq a w v48 (hF.sub ⟨rfl, rfl, rfl, rfl, rfl, rfl, rfl, rfl, rfl, rfl, rfl, rfl, rfl, rfl, rfl, rfl, rfl, rfl, rfl, rfl, trivial⟩) (hS.pick [1, 2, 3, 4, 0] rfl))
theorem rg50a {v0 v1 v5 v46 v48 : Value} {code more ss : List Int} {xs : List S43} {b q dd : Nat} {a_ s_ kn : Int} {eb : Bool} {Q : Exit → Act → World → Prop} {w0 w : World} {a : Act} (hF : Fr 639 a [(0, v0), (1, v1), (5, v5), (33, .int .i64 ((b : Int))), (34, .int .i64 ((q : Int))), (35, .int .i64 (((0 : Nat) : Int))), (36, .int .i64 ((b : Int))), (37, .int .i64 ((q : Int))), (38, .int .i64 (((0 : Nat) : Int))), (39, .int .i64 ((dd : Int))), (40, .int .i64 (a_)), (41, .int .i64 (s_)), (42, .int .i64 (kn)), (43, .int .i64 (a_)), (44, .int .i64 (s_)), (45, .int .i64 (kn)), (46, v46), (47, .int .i64 (0)), (48, v48), (49, .int .i64 (0))]) (hS : St w0 w [.b v0 code, .b v1 more, .d v5 xs, .n v46 ss, .n v48 ss]) (hs : ss.length ≤ 100) (k1 : decide (kn = 0) = eb) (k2 : decide ((dd : Int) ≤ (xs.length : Int)) = eb)
    (hq : ∀ a' w', Fr 639 a' [(0, v0), (1, v1), (5, v5), (35, .int .i64 (((0 : Nat) : Int))), (36, .int .i64 ((b : Int))), (37, .int .i64 ((q : Int))), (39, .int .i64 ((dd : Int))), (43, .int .i64 (a_)), (44, .int .i64 (s_)), (48, v48), (467, .bool false)] → St w0 w' [.b v0 code, .b v1 more, .d v5 xs, .n v48 ss] → Q .normal a' w') : (Code.region 50 (opsOf Tryz.f3 50) false).wp Tryz.prog Q a w := by
  conv => arg 2; arg 2; whnf
  refine wp_region_list ?_
  refine fr_pure (want0 rfl) rfl rfl hF (v_move hF rfl rfl) fun a hF => ?_
  refine fr_pure (want0 rfl) rfl rfl hF (v_move hF rfl rfl) fun a hF => ?_
  refine fr_pure (want0 rfl) rfl rfl hF (v_neq (b := false) hF rfl rfl rfl (by simp)) fun a hF => ?_
  refine fr_pure (want0 rfl) rfl rfl hF (v_move hF rfl rfl) fun a hF => ?_
  refine fr_pure (hF.want rfl rfl rfl rfl) rfl rfl hF (v_move hF rfl rfl) fun a hF => ?_
  refine fr_pure (hF.want rfl rfl rfl rfl) rfl rfl hF (v_move hF rfl rfl) fun a hF => ?_
  refine fr_pure (hF.want rfl rfl rfl rfl) rfl rfl hF (v_neq (b := false) hF rfl rfl rfl (by simp)) fun a hF => ?_
  refine fr_pure (want0 rfl) rfl rfl hF (v_pick hF rfl rfl rfl) fun a hF => ?_
  refine fr_pure (want0 rfl) rfl rfl hF (v_move hF rfl rfl) fun a hF => ?_
  refine fr_pure (hF.want rfl rfl rfl rfl) rfl rfl hF (v_move hF rfl rfl) fun a hF => ?_
  refine fr_pure (hF.want rfl rfl rfl rfl) rfl rfl hF (v_move hF rfl rfl) fun a hF => ?_
  refine fr_pure (hF.want rfl rfl rfl rfl) rfl rfl hF (v_neq (b := false) hF rfl rfl rfl (by simp)) fun a hF => ?_
  refine fr_pure (want0 rfl) rfl rfl hF (v_pick hF rfl rfl rfl) fun a hF => ?_
  refine fr_pure (want0 rfl) rfl rfl hF (v_move hF rfl rfl) fun a hF => ?_
  refine fr_pure (hF.want rfl rfl rfl rfl) rfl rfl hF (v_move hF rfl rfl) fun a hF => ?_
  refine fr_pure (hF.want rfl rfl rfl rfl) rfl rfl hF (v_neq (b := false) hF rfl rfl rfl (by decide)) fun a hF => ?_
  refine fr_pure (hF.want rfl rfl rfl rfl) rfl rfl hF (v_move hF rfl rfl) fun a hF => ?_
  refine fr_skip (hF.skip rfl rfl rfl rfl rfl) rfl rfl hF fun a hF => ?_
  refine fr_skip (hF.skip rfl rfl rfl rfl rfl) rfl rfl hF fun a hF => ?_
  refine fr_pure (hF.want rfl rfl rfl rfl) rfl rfl hF (v_pick hF rfl rfl rfl) fun a hF => ?_
  refine fr_pure (want0 rfl) rfl rfl hF (v_pick hF rfl rfl rfl) fun a hF => ?_
  refine fr_pure (want0 rfl) rfl rfl hF (v_move hF rfl rfl) fun a hF => ?_
  refine fr_pure (hF.want rfl rfl rfl rfl) rfl rfl hF (v_move hF rfl rfl) fun a hF => ?_
  refine fr_pure (hF.want rfl rfl rfl rfl) rfl rfl hF (v_move hF rfl rfl) fun a hF => ?_
  refine fr_pure (hF.want rfl rfl rfl rfl) rfl rfl hF (v_neq (b := false) hF rfl rfl rfl (by simp)) fun a hF => ?_
  refine fr_pure (want0 rfl) rfl rfl hF (v_pick hF rfl rfl rfl) fun a hF => ?_
  refine fr_pure (want0 rfl) rfl rfl hF (v_move hF rfl rfl) fun a hF => ?_
  refine fr_pure (hF.want rfl rfl rfl rfl) rfl rfl hF (v_move hF rfl rfl) fun a hF => ?_
  refine fr_pure (hF.want rfl rfl rfl rfl) rfl rfl hF (v_move hF rfl rfl) fun a hF => ?_
  refine fr_pure (hF.want rfl rfl rfl rfl) rfl rfl hF (v_neq (b := false) hF rfl rfl rfl (by simp)) fun a hF => ?_
  refine fr_pure (want0 rfl) rfl rfl hF (v_pick hF rfl rfl rfl) fun a hF => ?_
  refine fr_pure (want0 rfl) rfl rfl hF (v_move hF rfl rfl) fun a hF => ?_
  refine fr_pure (hF.want rfl rfl rfl rfl) rfl rfl hF (v_move hF rfl rfl) fun a hF => ?_
  refine fr_pure (hF.want rfl rfl rfl rfl) rfl rfl hF (v_move hF rfl rfl) fun a hF => ?_
  refine fr_pure (hF.want rfl rfl rfl rfl) rfl rfl hF (v_neq (b := false) hF rfl rfl rfl (by simp)) fun a hF => ?_
  refine fr_pure (want0 rfl) rfl rfl hF (v_pick hF rfl rfl rfl) fun a hF => ?_
  refine fr_pure (want0 rfl) rfl rfl hF (v_move hF rfl rfl) fun a hF => ?_
  refine fr_pure (hF.want rfl rfl rfl rfl) rfl rfl hF (v_move hF rfl rfl) fun a hF => ?_
  refine fr_pure (hF.want rfl rfl rfl rfl) rfl rfl hF (v_eql (b := eb) hF rfl rfl rfl (k1)) fun a hF => ?_
  refine fr_pure (hF.want rfl rfl rfl rfl) rfl rfl hF (v_move hF rfl rfl) fun a hF => ?_
  refine fr_pure (hF.want rfl rfl rfl rfl) rfl rfl hF (v_move hF rfl rfl) fun a hF => ?_
  refine fr_pure (hF.want rfl rfl rfl rfl) rfl rfl hF (v_len24 hF rfl rfl (hS.get 2 rfl)) fun a hF => ?_
  refine fr_pure (hF.want rfl rfl rfl rfl) rfl rfl hF (v_leq (b := eb) hF rfl rfl rfl (k2)) fun a hF => ?_
  refine fr_pure (hF.want rfl rfl rfl rfl) rfl rfl hF (v_neqB (p := false) hF rfl rfl rfl (by simp)) fun a hF => ?_
  refine fr_pure (want0 rfl) rfl rfl hF (v_pick hF rfl rfl rfl) fun a hF => ?_
  refine fr_pure (want0 rfl) rfl rfl hF (v_move hF rfl rfl) fun a hF => ?_
  refine fr_pure (hF.want rfl rfl rfl rfl) rfl rfl hF (v_move hF rfl rfl) fun a hF => ?_
  refine fr_pure (hF.want rfl rfl rfl rfl) rfl rfl hF (v_move hF rfl rfl) fun a hF => ?_
  refine fr_pure (hF.want rfl rfl rfl rfl) rfl rfl hF (v_neq (b := false) hF rfl rfl rfl (by simp)) fun a hF => ?_
  refine fr_pure (want0 rfl) rfl rfl hF (v_pick hF rfl rfl rfl) fun a hF => ?_
  refine fr_pure (want0 rfl) rfl rfl hF (v_move hF rfl rfl) fun a hF => ?_
  refine fr_pure (hF.want rfl rfl rfl rfl) rfl rfl hF (v_move hF rfl rfl) fun a hF => ?_
  refine fr_pure (hF.want rfl rfl rfl rfl) rfl rfl hF (v_neq (b := false) hF rfl rfl rfl (by simp)) fun a hF => ?_
  refine fr_pure (want0 rfl) rfl rfl hF (v_pick hF rfl rfl rfl) fun a hF => ?_
  refine fr_pure (want0 rfl) rfl rfl hF (v_move hF rfl rfl) fun a hF => ?_
  refine fr_pure (hF.want rfl rfl rfl rfl) rfl rfl hF (v_move hF rfl rfl) fun a hF => ?_
  refine fr_pure (hF.want rfl rfl rfl rfl) rfl rfl hF (v_move hF rfl rfl) fun a hF => ?_
  refine fv_call2 (hF.want rfl rfl rfl rfl) rfl rfl rfl hF rfl rfl good19 hS (k_spec_SameNumbers (hS.get 3 rfl) (hS.get 4 rfl) (sameN _ (by omega))) fun a w hF hS => ?_
  refine fr_pure (hF.want rfl rfl rfl rfl) rfl rfl hF (v_not hF rfl rfl rfl) fun a hF => ?_
  refine fr_pure (want0 rfl) rfl rfl hF (v_pick hF rfl rfl rfl) fun a hF => ?_
  exact wpList_nil (hq a w (hF.sub ⟨rfl, rfl, rfl, rfl, rfl, rfl, rfl, rfl, rfl, rfl, rfl, trivial⟩) (hS.pick [0, 1, 2, 4] rfl))
theorem rg50b {v0 v1 v5 v46 v48 : Value} {code more ss : List Int} {xs : List S43} {b q dd : Nat} {a_ s_ kn : Int} {eb : Bool} {Q : Exit → Act → World → Prop} {w0 w : World} {a : Act} (hF : Fr 639 a [(0, v0), (1, v1), (5, v5), (33, .int .i64 ((b : Int))), (34, .int .i64 ((q : Int))), (35, .int .i64 (((6 : Nat) : Int))), (36, .int .i64 ((b : Int))), (37, .int .i64 ((q : Int))), (38, .int .i64 (((6 : Nat) : Int))), (39, .int .i64 ((dd : Int))), (40, .int .i64 (a_)), (41, .int .i64 (s_)), (42, .int .i64 (kn)), (43, .int .i64 (a_)), (44, .int .i64 (s_)), (45, .int .i64 (kn)), (46, v46), (47, .int .i64 (0)), (48, v48), (49, .int .i64 (0))]) (hS : St w0 w [.b v0 code, .b v1 more, .d v5 xs, .n v46 ss, .n v48 ss]) (hs : ss.length ≤ 100) (k1 : decide (kn = 0) = eb) (k2 : decide ((dd : Int) ≤ (xs.length : Int)) = eb)
    (hq : ∀ a' w', Fr 639 a' [(0, v0), (1, v1), (5, v5), (35, .int .i64 (((6 : Nat) : Int))), (36, .int .i64 ((b : Int))), (37, .int .i64 ((q : Int))), (39, .int .i64 ((dd : Int))), (43, .int .i64 (a_)), (44, .int .i64 (s_)), (48, v48), (467, .bool false)] → St w0 w' [.b v0 code, .b v1 more, .d v5 xs, .n v48 ss] → Q .normal a' w') : (Code.region 50 (opsOf Tryz.f3 50) false).wp Tryz.prog Q a w := by
  conv => arg 2; arg 2; whnf
  refine wp_region_list ?_
  refine fr_pure (want0 rfl) rfl rfl hF (v_move hF rfl rfl) fun a hF => ?_
  refine fr_pure (want0 rfl) rfl rfl hF (v_move hF rfl rfl) fun a hF => ?_
  refine fr_pure (want0 rfl) rfl rfl hF (v_neq (b := false) hF rfl rfl rfl (by simp)) fun a hF => ?_
  refine fr_pure (want0 rfl) rfl rfl hF (v_move hF rfl rfl) fun a hF => ?_
  refine fr_pure (hF.want rfl rfl rfl rfl) rfl rfl hF (v_move hF rfl rfl) fun a hF => ?_
  refine fr_pure (hF.want rfl rfl rfl rfl) rfl rfl hF (v_move hF rfl rfl) fun a hF => ?_
  refine fr_pure (hF.want rfl rfl rfl rfl) rfl rfl hF (v_neq (b := false) hF rfl rfl rfl (by simp)) fun a hF => ?_
  refine fr_pure (want0 rfl) rfl rfl hF (v_pick hF rfl rfl rfl) fun a hF => ?_
  refine fr_pure (want0 rfl) rfl rfl hF (v_move hF rfl rfl) fun a hF => ?_
  refine fr_pure (hF.want rfl rfl rfl rfl) rfl rfl hF (v_move hF rfl rfl) fun a hF => ?_
  refine fr_pure (hF.want rfl rfl rfl rfl) rfl rfl hF (v_move hF rfl rfl) fun a hF => ?_
  refine fr_pure (hF.want rfl rfl rfl rfl) rfl rfl hF (v_neq (b := false) hF rfl rfl rfl (by simp)) fun a hF => ?_
  refine fr_pure (want0 rfl) rfl rfl hF (v_pick hF rfl rfl rfl) fun a hF => ?_
  refine fr_pure (want0 rfl) rfl rfl hF (v_move hF rfl rfl) fun a hF => ?_
  refine fr_pure (hF.want rfl rfl rfl rfl) rfl rfl hF (v_move hF rfl rfl) fun a hF => ?_
  refine fr_pure (hF.want rfl rfl rfl rfl) rfl rfl hF (v_neq (b := true) hF rfl rfl rfl (by decide)) fun a hF => ?_
  refine fr_pure (hF.want rfl rfl rfl rfl) rfl rfl hF (v_move hF rfl rfl) fun a hF => ?_
  refine fr_pure (hF.want rfl rfl rfl rfl) rfl rfl hF (v_move hF rfl rfl) fun a hF => ?_
  refine fr_pure (hF.want rfl rfl rfl rfl) rfl rfl hF (v_neq (b := false) hF rfl rfl rfl (by decide)) fun a hF => ?_
  refine fr_pure (hF.want rfl rfl rfl rfl) rfl rfl hF (v_pick hF rfl rfl rfl) fun a hF => ?_
  refine fr_pure (want0 rfl) rfl rfl hF (v_pick hF rfl rfl rfl) fun a hF => ?_
  refine fr_pure (want0 rfl) rfl rfl hF (v_move hF rfl rfl) fun a hF => ?_
  refine fr_pure (hF.want rfl rfl rfl rfl) rfl rfl hF (v_move hF rfl rfl) fun a hF => ?_
  refine fr_pure (hF.want rfl rfl rfl rfl) rfl rfl hF (v_move hF rfl rfl) fun a hF => ?_
  refine fr_pure (hF.want rfl rfl rfl rfl) rfl rfl hF (v_neq (b := false) hF rfl rfl rfl (by simp)) fun a hF => ?_
  refine fr_pure (want0 rfl) rfl rfl hF (v_pick hF rfl rfl rfl) fun a hF => ?_
  refine fr_pure (want0 rfl) rfl rfl hF (v_move hF rfl rfl) fun a hF => ?_
  refine fr_pure (hF.want rfl rfl rfl rfl) rfl rfl hF (v_move hF rfl rfl) fun a hF => ?_
  refine fr_pure (hF.want rfl rfl rfl rfl) rfl rfl hF (v_move hF rfl rfl) fun a hF => ?_
  refine fr_pure (hF.want rfl rfl rfl rfl) rfl rfl hF (v_neq (b := false) hF rfl rfl rfl (by simp)) fun a hF => ?_
  refine fr_pure (want0 rfl) rfl rfl hF (v_pick hF rfl rfl rfl) fun a hF => ?_
  refine fr_pure (want0 rfl) rfl rfl hF (v_move hF rfl rfl) fun a hF => ?_
  refine fr_pure (hF.want rfl rfl rfl rfl) rfl rfl hF (v_move hF rfl rfl) fun a hF => ?_
  refine fr_pure (hF.want rfl rfl rfl rfl) rfl rfl hF (v_move hF rfl rfl) fun a hF => ?_
  refine fr_pure (hF.want rfl rfl rfl rfl) rfl rfl hF (v_neq (b := false) hF rfl rfl rfl (by simp)) fun a hF => ?_
  refine fr_pure (want0 rfl) rfl rfl hF (v_pick hF rfl rfl rfl) fun a hF => ?_
  refine fr_pure (want0 rfl) rfl rfl hF (v_move hF rfl rfl) fun a hF => ?_
  refine fr_pure (hF.want rfl rfl rfl rfl) rfl rfl hF (v_move hF rfl rfl) fun a hF => ?_
  refine fr_pure (hF.want rfl rfl rfl rfl) rfl rfl hF (v_eql (b := eb) hF rfl rfl rfl (k1)) fun a hF => ?_
  refine fr_pure (hF.want rfl rfl rfl rfl) rfl rfl hF (v_move hF rfl rfl) fun a hF => ?_
  refine fr_pure (hF.want rfl rfl rfl rfl) rfl rfl hF (v_move hF rfl rfl) fun a hF => ?_
  refine fr_pure (hF.want rfl rfl rfl rfl) rfl rfl hF (v_len24 hF rfl rfl (hS.get 2 rfl)) fun a hF => ?_
  refine fr_pure (hF.want rfl rfl rfl rfl) rfl rfl hF (v_leq (b := eb) hF rfl rfl rfl (k2)) fun a hF => ?_
  refine fr_pure (hF.want rfl rfl rfl rfl) rfl rfl hF (v_neqB (p := false) hF rfl rfl rfl (by simp)) fun a hF => ?_
  refine fr_pure (want0 rfl) rfl rfl hF (v_pick hF rfl rfl rfl) fun a hF => ?_
  refine fr_pure (want0 rfl) rfl rfl hF (v_move hF rfl rfl) fun a hF => ?_
  refine fr_pure (hF.want rfl rfl rfl rfl) rfl rfl hF (v_move hF rfl rfl) fun a hF => ?_
  refine fr_pure (hF.want rfl rfl rfl rfl) rfl rfl hF (v_move hF rfl rfl) fun a hF => ?_
  refine fr_pure (hF.want rfl rfl rfl rfl) rfl rfl hF (v_neq (b := false) hF rfl rfl rfl (by simp)) fun a hF => ?_
  refine fr_pure (want0 rfl) rfl rfl hF (v_pick hF rfl rfl rfl) fun a hF => ?_
  refine fr_pure (want0 rfl) rfl rfl hF (v_move hF rfl rfl) fun a hF => ?_
  refine fr_pure (hF.want rfl rfl rfl rfl) rfl rfl hF (v_move hF rfl rfl) fun a hF => ?_
  refine fr_pure (hF.want rfl rfl rfl rfl) rfl rfl hF (v_neq (b := false) hF rfl rfl rfl (by simp)) fun a hF => ?_
  refine fr_pure (want0 rfl) rfl rfl hF (v_pick hF rfl rfl rfl) fun a hF => ?_
  refine fr_pure (want0 rfl) rfl rfl hF (v_move hF rfl rfl) fun a hF => ?_
  refine fr_pure (hF.want rfl rfl rfl rfl) rfl rfl hF (v_move hF rfl rfl) fun a hF => ?_
  refine fr_pure (hF.want rfl rfl rfl rfl) rfl rfl hF (v_move hF rfl rfl) fun a hF => ?_
  refine fv_call2 (hF.want rfl rfl rfl rfl) rfl rfl rfl hF rfl rfl good19 hS (k_spec_SameNumbers (hS.get 3 rfl) (hS.get 4 rfl) (sameN _ (by omega))) fun a w hF hS => ?_
  refine fr_pure (hF.want rfl rfl rfl rfl) rfl rfl hF (v_not hF rfl rfl rfl) fun a hF => ?_
  refine fr_pure (want0 rfl) rfl rfl hF (v_pick hF rfl rfl rfl) fun a hF => ?_
  exact wpList_nil (hq a w (hF.sub ⟨rfl, rfl, rfl, rfl, rfl, rfl, rfl, rfl, rfl, rfl, rfl, trivial⟩) (hS.pick [0, 1, 2, 4] rfl))
end Go.Proofs.YtibpndhcijmhpaaGreatDoor.B
