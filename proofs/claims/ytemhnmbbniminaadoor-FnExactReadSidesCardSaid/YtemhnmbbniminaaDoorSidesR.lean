/- Walks: sides read out of a text, and the law. -/
import Derived.Test.YtemhnmbbniminaaDoorSidesI
import Derived.Test.YtemhnmbbniminaaDoorLawReadSides
import Derived.Test.YtemhnmbbniminaaDoorGlob
namespace Go.Proofs.YtemhnmbbniminaaDoor.QV
set_option linter.unusedSimpArgs false
set_option linter.unusedVariables false
open Go.RowKit Go.Proofs.YtemhnmbbniminaaDoor.B Go.Proofs.YtemhnmbbniminaaDoorW.PrintWords Go.Proofs.YtemhnmbbniminaaDoorW.PrintLast Go.Proofs.YtemhnmbbniminaaDoorW.PrintMore

theorem atDst {P : Program} {ops : Array Oper} {rest : List Oper} {o : Oper} {a : Act} {Q : Exit → Act → World → Prop} {W : World} (N : Tmp) (_hN : o.dst = some N) (h : wpList P ops Q (o :: rest) a W) : wpList P ops Q (o :: rest) a W := h
theorem zero5 : (Tryd.prog.info? 24).map (fun i => (i.zero, i.size)) = some (some (.agg (arr .i64 5 fun _ => 0)), 5) := by kernel_rfl
theorem below_own {w W : World} (h : Below w.heap.size w W) {o : Obj} : Below W.heap.size W (W.alloc o) := (Below.refl _ _).alloc (Nat.le_refl _) o

set_option maxRecDepth 100000 in
set_option maxHeartbeats 2000000 in
theorem sReadSides (t : ByteArray) (ws : List ByteArray) (kd : Nat) (hk : spec_l01Split.f kd t 32 = some ws) (hz : ∀ w ∈ ws, w.size ≤ 1048576) (w : World) :
    Calls Tryd.prog 15 #[.string t] w fun e w' => e = .returned (.tuple #[.agg (arr .i64 5 (resC ws)), .int .i64 (resQ ws)]) ∧ Below w.heap.size w w' := by
  have HK := Aside0.mk hk
  have HZ := Aside0.mk hz
  clear hk hz
  by_cases h5 : ws.length = 5
  case neg =>
    obtain ⟨e1, e2⟩ := res_bad (good_len h5)
    rw [e1, e2]
    have hne : ((ws.length : Int) != 5) = true := bne_iff_ne.mpr (by omega)
    have hne2 : ((ws.length : Int) == 5) = false := beq_eq_false_iff_ne.mpr (by omega)
    clear e1 e2 h5
    go_enter Tryd.func15, Tryd.ntmps15
    go_wp2_with (first | (go_at_call 31; refine (spec_l01Split.calls kd t 32 ws _ HK.out).mono ?_; rintro e w1 ⟨v1, rfl, ho, hb⟩; obtain ⟨Ao, co, eo⟩ := Kd.R_slice ho; subst eo; have hB1 := belW (belA (Below.refl w.heap.size w)) hb; have h3 : w1.heap[w.heap.size]? = some (.cells (arr .i64 5 (fun _ => 0)) 24 (0, 0)) := blkB hb (z5 ▸ blkN rfl) (by simp)) | (refine storeRow (c' := arr .i64 5 (fun _ => 0)) rfl rfl rfl rfl (congrArg Value.agg z5.symm) h3 (by rw [arr_size]; exact size5) rfl (arr_one _ _ _) ?_; intro w4 j1 j2 j3 j4))
    exact retRowTmp rfl rfl rfl j1 Tryd.underlying24 rfl (by rw [arr_size]; exact size5) rfl ⟨rfl, belT hB1 j3 (by omega)⟩
  have hne : ((ws.length : Int) != 5) = false := bne_eq_false_iff_eq.mpr (by omega)
  have hne2 : ((ws.length : Int) == 5) = true := beq_iff_eq.mpr (by omega)
  have L5 := Aside0.mk h5
  clear h5
  go_enter Tryd.func15, Tryd.ntmps15
  go_wp2_with (first | (go_at_call 31; refine (spec_l01Split.calls kd t 32 ws _ HK.out).mono ?_; rintro e w1 ⟨v1, rfl, ho, hb⟩; obtain ⟨Ao, co, eo⟩ := Kd.R_slice ho; subst eo; have HC := Aside0.mk (Kd.R_reads' ho).2.2; have hB1 := belW (belA (Below.refl w.heap.size w)) hb; have h3 : w1.heap[w.heap.size]? = some (.cells (arr .i64 5 (fun _ => 0)) 24 (0, 0)) := blkB hb (z5 ▸ blkN rfl) (by simp); have hlt3 : w.heap.size < w1.heap.size := blkLt h3; clear ho hb))
  have H3 := Aside0.mk h3
  have HB1 := Aside0.mk hB1
  clear h3 hB1
  go_loopw [6] (fun i wr => ∃ k : Nat, k ≤ 5 ∧ i = .int .i64 k ∧ (∀ i, i < k → numN ws i ≠ none) ∧ Below w1.heap.size w1 wr ∧ wr.heap[w1.heap.size]? = some (.cells (arr .i64 5 (pref (numS ws) k)) 24 (0, 0))) (fun i _ => 5 - (intOf i).toNat)
  case atStart => exact ⟨0, by omega, rfl, fun i hi => by omega, (Below.refl _ _).alloc (Nat.le_refl _) _, by rw [pref_zero, z5]; exact blkN rfl⟩
  case round =>
    obtain ⟨k, hk, rfl, hall, hB, hg⟩ := hrel
    have h3 := blkB hB H3.out hlt3
    by_cases hlt : k < 5
    · have hd : decide ((k : Int) < 5) = true := by simp; omega
      have hp0 : (0 : Int) ≤ (k : Int) := by omega
      have hq0 : (k : Int) < (ws.length : Int) := by have := L5.out; omega
      obtain ⟨ad, ea, hx⟩ := Kd.at_string HC.out (k : Int) hp0 hq0
      cases ea
      replace hx := (hB.cell (World.block_lt_of_cell? w1 _ hx)).trans hx
      rw [Int.toNat_natCast] at hx
      have p := eq_true hp0
      have q := eq_true hq0
      have hmem : rdOf ByteArray.empty ws (k : Int) ∈ ws := by
        rw [rdO_is ws k (by omega)]
        exact List.getElem_mem _
      obtain ⟨kn, hkn⟩ := Evn.ex (number_is _ (HZ.out _ hmem))
      have hN : numN ws k = nat1 (rdOf ByteArray.empty ws (k : Int)).data.toList := rfl
      rw [← hN] at hkn
      clear hmem hp0 hq0
      have HALL := Aside0.mk hall
      clear hall
      cases e : numN ws k with
      | none =>
        rw [e] at hkn
        have HN := Aside0.mk hkn
        obtain ⟨e1, e2⟩ := res_bad (good_num hlt e)
        have E := Aside0.mk (And.intro e1 e2)
        clear e1 e2 hkn hN e
        go_wp2_with (first | (go_at_call 32; refine (spec_l01Number.calls kn _ _ _ _ HN.out).mono ?_; rintro e w5 ⟨rfl, ⟨nd, rfl⟩⟩) | (refine storeRow (c' := arr .i64 5 (fun _ => 0)) rfl rfl rfl rfl (congrArg Value.agg z5.symm) (blkDN h3) (by rw [arr_size]; exact size5) rfl (arr_one _ _ _) ?_; intro w6 j1 j2 j3 j4))
        exact retRowTmp rfl rfl rfl j1 Tryd.underlying24 rfl (by rw [arr_size]; exact size5) rfl ⟨by rw [E.out.1, E.out.2]; rfl, belT (belT HB1.out (belDN hB) (by omega)) j3 (by omega)⟩
      | some u =>
        rw [e] at hkn
        have HN := Aside0.mk hkn
        have eu : (u : Int) = numS ws k := by unfold numS; rw [e]; rfl
        have EU := Aside0.mk eu
        have HN2 := Aside0.mk (show ∀ i, i < k + 1 → numN ws i ≠ none from fun i hi => by
          by_cases ei : i = k
          · subst ei; rw [e]; simp
          · exact HALL.out i (by omega))
        clear hkn hN e eu
        have c0 := (blkC hg k).trans (arr_get hlt)
        have f0 := blkF hg k
        have M := Aside0.mk (show ((k : Int) + 1) = ((k + 1 : Nat) : Int) by omega)
        go_wp2_with (first | (go_at_call 32; refine (spec_l01Number.calls kn _ _ _ _ HN.out).mono ?_; rintro e w5 ⟨rfl, ⟨nd, rfl⟩⟩; have c0 := (blkC (blkDN (n := nd) hg) k).trans (arr_get (k := .i64) (c := pref (numS ws) k) hlt); have f0 := blkF (blkDN (n := nd) hg) k))
        refine ⟨⟨k + 1, by omega, by go_num, HN2.out, (belDN hB).setCell (Nat.le_refl _) _, ?_⟩, by simp [intOf]; omega⟩
        rw [← pref_step, ← EU.out]
        exact blkS (blkDN hg)
    · obtain rfl : k = 5 := by omega
      rw [pref_full] at hg
      have hall2 := hall
      have HT := Aside0.mk (fun w hg => sTold (numS ws) w1.heap.size 24 w hg)
      rcases twoways (toldB (numS ws)) with b | b
      · rw [b] at HT
        obtain ⟨e1, e2⟩ := res_bad (good_told b)
        have E := Aside0.mk (And.intro e1 e2)
        clear e1 e2 b hall hall2
        go_wp2_with (first | (go_at_call 22; refine (HT.out _ hg).mono ?_; rintro e w5 ⟨rfl, hb5⟩; have h5 := blkB hb5 h3 (blkLt h3)) | (refine storeRow (c' := arr .i64 5 (fun _ => 0)) rfl rfl rfl rfl (congrArg Value.agg z5.symm) h5 (by rw [arr_size]; exact size5) rfl (arr_one _ _ _) ?_; intro w6 j1 j2 j3 j4))
        exact retRowTmp rfl rfl rfl j1 Tryd.underlying24 rfl (by rw [arr_size]; exact size5) rfl ⟨by rw [E.out.1, E.out.2]; rfl, belT (belW (belT HB1.out hB (by omega)) hb5) j3 (by omega)⟩
      · rw [b] at HT
        obtain ⟨e1, e2⟩ := res_good (good_of L5.out (fun i hi => hall i hi) b)
        have E := Aside0.mk (And.intro e1 e2)
        clear e1 e2 b hall hall2
        go_wp2_with (first | (go_at_call 22; refine (HT.out _ hg).mono ?_; rintro e w5 ⟨rfl, hb5⟩; have h5 := blkB hb5 h3 (blkLt h3); have h6 := blkB hb5 hg (blkLt hg)) | ((with_reducible refine atDst 37 rfl ?_); refine loadRow 37 rfl rfl rfl rfl Tryd.underlying24 rfl h6 (by rw [arr_size]; exact size5) ?_) | (refine storeRow (c' := arr .i64 5 (numS ws)) rfl rfl rfl rfl rfl h5 (by rw [arr_size]; exact size5) (by simp only [arr_size]) (arr_one _ _ _) ?_; intro w6 j1 j2 j3 j4))
        exact retRowTmp rfl rfl rfl j1 Tryd.underlying24 rfl (by rw [arr_size]; exact size5) rfl ⟨by rw [E.out.1, E.out.2]; rfl, belT (belW (belT HB1.out hB (by omega)) hb5) j3 (by omega)⟩
end Go.Proofs.YtemhnmbbniminaaDoor.QV
