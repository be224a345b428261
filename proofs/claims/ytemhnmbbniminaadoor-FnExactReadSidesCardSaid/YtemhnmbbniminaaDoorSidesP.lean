/- Walks: the program reads sides. -/
import Derived.Test.YtemhnmbbniminaaDoorSidesR
namespace Go.Proofs.YtemhnmbbniminaaDoor.QV
set_option linter.unusedSimpArgs false
set_option linter.unusedVariables false
open Go.RowKit Go.Proofs.YtemhnmbbniminaaDoor.B Go.Proofs.YtemhnmbbniminaaDoorW.PrintWords Go.Proofs.YtemhnmbbniminaaDoorW.PrintLast Go.Proofs.YtemhnmbbniminaaDoorW.PrintMore

/-- What the program answers. -/
theorem impl_ans (t : ByteArray) (ws : List ByteArray) (hw : ws.map (·.data.toList) = spl 32 t.data.toList) :
    (goodS ws = true ∧ ansS (numI ws) = t ∧ t.toList ≠ [] ∧ arr .i64 5 (resC ws) = arr .i64 5 (numI ws) ∧ resQ ws = 0) ∨
    ((ansS (numI ws) ≠ t ∨ (ansS (numI ws) = t ∧ t.toList = [])) ∧ arr .i64 5 (resC ws) = arr .i64 5 (fun _ => 0) ∧ resQ ws = 5) := by
  rcases twoways (goodS ws) with b | b
  · refine .inr ⟨?_, by rw [(res_bad b).1], (res_bad b).2⟩
    by_cases h : ansS (numI ws) = t
    · exact .inr ⟨h, (bad_ans t ws hw b).resolve_left (fun e => e h)⟩
    · exact .inl h
  · obtain ⟨h1, h2, h3⟩ := good_ans t ws hw b
    exact .inl ⟨b, h2, h3, by rw [(res_good b).1]; exact arr_congr fun i hi => (h1 i hi).symm, (res_good b).2⟩
theorem pref_same {c : Nat → Int} {k : Nat} (h : 5 ≤ k) : arr .i64 5 (pref c (k + 1)) = arr .i64 5 (pref c k) := arr_congr fun i hi => by
  unfold pref
  rw [if_pos (by omega), if_pos (by omega)]
theorem pref_numI (ws : List ByteArray) : arr .i64 5 (pref (numI ws) ws.length) = arr .i64 5 (numI ws) := arr_congr fun i hi => by
  unfold pref
  by_cases h : i < ws.length
  · rw [if_pos h]
  · rw [if_neg h]
    unfold numI
    rw [if_neg h]

set_option maxRecDepth 100000 in
set_option maxHeartbeats 2000000 in
theorem iReadSides (t : ByteArray) (ws : List ByteArray) (hk : strings_Split.f t (⟨#[32]⟩ : ByteArray) = some ws) (hw : ws.map (·.data.toList) = spl 32 t.data.toList) (hl : ws.length ≤ 2097152) (hz : ∀ w ∈ ws, w.size ≤ 1048576) (w : World) (hG : GL w) (hT : TB w) :
    Calls Tryd.prog 16 #[.string t] w fun e w' => e = .returned (.tuple #[.agg (arr .i64 5 (resC ws)), .int .i64 (resQ ws)]) ∧ Below w.heap.size w w' := by
  have HK := Aside0.mk hk
  have HZ := Aside0.mk hz
  have HW := Aside0.mk hw
  have HL := Aside0.mk hl
  have HG := Aside0.mk hG
  have HT := Aside0.mk hT
  clear hk hz hw hl hG hT
  go_enter Tryd.func16, Tryd.ntmps16
  go_wp2_with (first | (go_at_call 33; refine (strings_Split.calls t (⟨#[32]⟩ : ByteArray) ws _ (gl_any HG.out (belA (Below.refl _ _))) HK.out).mono ?_; rintro e w1 ⟨v1, rfl, ho, hb⟩; obtain ⟨Ao, co, eo⟩ := Kd.R_slice ho; subst eo; have HC := Aside0.mk (Kd.R_reads' ho).2.2; have hB1 := belW (belA (Below.refl w.heap.size w)) hb; have h3 : w1.heap[w.heap.size]? = some (.cells (arr .i64 5 (fun _ => 0)) 24 (0, 0)) := blkB hb (z5 ▸ blkN rfl) (by simp); have hlt3 : w.heap.size < w1.heap.size := blkLt h3; clear ho hb))
  have H3 := Aside0.mk h3
  have HB1 := Aside0.mk hB1
  clear h3 hB1
  go_loopw [13] (fun i wr => ∃ k : Nat, k ≤ ws.length ∧ i = .int .i64 k ∧ Below w1.heap.size w1 wr ∧ wr.heap[w1.heap.size]? = some (.cells (arr .i64 5 (pref (numI ws) k)) 24 (0, 0))) (fun i _ => ws.length - (intOf i).toNat)
  case atStart => exact ⟨0, by omega, rfl, (Below.refl _ _).alloc (Nat.le_refl _) _, by rw [pref_zero, z5]; exact blkN rfl⟩
  case round =>
    obtain ⟨k, hk, rfl, hB, hg⟩ := hrel
    have h3 := blkB hB H3.out hlt3
    by_cases hlt : k < ws.length
    · have hd : decide ((k : Int) < (ws.length : Int)) = true := by simp; omega
      have hp0 : (0 : Int) ≤ (k : Int) := by omega
      have hq0 : (k : Int) < (ws.length : Int) := by omega
      obtain ⟨ad, ea, hx⟩ := Kd.at_string HC.out (k : Int) hp0 hq0
      cases ea
      replace hx := (hB.cell (World.block_lt_of_cell? w1 _ hx)).trans hx
      rw [Int.toNat_natCast] at hx
      have p := eq_true hp0
      have q := eq_true hq0
      have hmem : rdOf ByteArray.empty ws (k : Int) ∈ ws := by
        rw [rdO_is ws k (by omega)]
        exact List.getElem_mem _
      have hs := HZ.out _ hmem
      have hnum : impl_number.f (rdOf ByteArray.empty ws (k : Int)) = some (numI ws k) := by
        unfold impl_number.f numI
        rw [if_pos hlt]
        exact if_pos (by omega)
      have HN := Aside0.mk hnum
      have w1_ := HL.out
      have M := Aside0.mk (show IntKind.i64.wrap ((k : Int) + 1) = ((k + 1 : Nat) : Int) by rw [IntWalk.i64_in _ (by omega)]; omega)
      have M2 : IntKind.i64.wrap ((k : Int) + 1) = (k : Int) + 1 := IntWalk.i64_in _ (by omega)
      clear hmem hp0 hq0 hnum hs w1_
      by_cases h5 : k < 5
      · have hd5 : decide ((k : Int) < 5) = true := by simp; omega
        have c0 := (blkC hg k).trans (arr_get h5)
        have f0 := blkF hg k
        go_wp2_with (first | (go_at_call 34; refine (impl_number.calls _ _ _ (gl_any HG.out (belT HB1.out hB (by omega))) HN.out).mono ?_; rintro e w5 ⟨rfl, hb5⟩; have hg5 := blkB hb5 hg (blkLt hg); have c0 := (blkC hg5 k).trans (arr_get (k := .i64) (c := pref (numI ws) k) h5); have f0 := blkF hg5 k))
        refine ⟨⟨k + 1, by omega, by go_num, (belT hB hb5 hB.size).setCell (Nat.le_refl _) _, ?_⟩, by simp [intOf]; omega⟩
        rw [← pref_step]
        exact blkS hg5
      · have hd5 : decide ((k : Int) < 5) = false := by simp; omega
        have hg2 : wr.heap[w1.heap.size]? = some (.cells (arr .i64 5 (pref (numI ws) (k + 1))) 24 (0, 0)) := by rw [pref_same (by omega)]; exact hg
        go_wp2
        exact ⟨⟨k + 1, by omega, by go_num, hB, hg2⟩, by simp [intOf]; omega⟩
    · obtain rfl : k = ws.length := by omega
      have hd : decide ((ws.length : Int) < (ws.length : Int)) = false := by simp
      rw [pref_numI] at hg
      have hBW : Below w.heap.size w wr := belT HB1.out hB (by omega)
      have HI := Aside0.mk (iSides (numI ws) wr (tb_any HT.out hBW))
      rcases impl_ans t ws HW.out with ⟨_, h1, h2, e1, e2⟩ | ⟨h1 | ⟨h1, h2⟩, e1, e2⟩
      · have E := Aside0.mk (And.intro e1 e2)
        have x1 : ((ansS (numI ws)).toList != t.toList) = false := bne_eq_false_iff_eq.mpr (by rw [h1])
        have x2 : ((ansS (numI ws)).toList == t.toList) = true := beq_iff_eq.mpr (by rw [h1])
        have x3 : (t.toList == ([] : List UInt8)) = false := beq_eq_false_iff_ne.mpr h2
        have x4 : (t.toList != ([] : List UInt8)) = true := bne_iff_ne.mpr h2
        clear h1 h2 e1 e2
        go_wp2_with (first | ((with_reducible refine atDst 25 rfl ?_); refine loadRow 25 rfl rfl rfl rfl Tryd.underlying24 rfl hg (by rw [arr_size]; exact size5) ?_) | (go_at_call 9; refine HI.out.mono ?_; rintro e w5 ⟨rfl, hb5⟩; have h5 := blkB hb5 h3 (blkLt h3); have h6 := blkB hb5 hg (blkLt hg)) | ((with_reducible refine atDst 34 rfl ?_); refine loadRow 34 rfl rfl rfl rfl Tryd.underlying24 rfl h6 (by rw [arr_size]; exact size5) ?_) | (refine storeRow (c' := arr .i64 5 (numI ws)) rfl rfl rfl rfl rfl h5 (by rw [arr_size]; exact size5) (by simp only [arr_size]) (arr_one _ _ _) ?_; intro w6 j1 j2 j3 j4))
        exact retRowTmp rfl rfl rfl j1 Tryd.underlying24 rfl (by rw [arr_size]; exact size5) rfl ⟨by rw [E.out.1, E.out.2]; rfl, belT (belW hBW hb5) j3 (by omega)⟩
      · have E := Aside0.mk (And.intro e1 e2)
        have hne : (ansS (numI ws)).toList ≠ t.toList := fun e => h1 (ba_ext (by rw [toList_is, toList_is] at e; exact e))
        have x1 : ((ansS (numI ws)).toList != t.toList) = true := bne_iff_ne.mpr hne
        have x2 : ((ansS (numI ws)).toList == t.toList) = false := beq_eq_false_iff_ne.mpr hne
        clear h1 e1 e2 hne
        go_wp2_with (first | ((with_reducible refine atDst 25 rfl ?_); refine loadRow 25 rfl rfl rfl rfl Tryd.underlying24 rfl hg (by rw [arr_size]; exact size5) ?_) | (go_at_call 9; refine HI.out.mono ?_; rintro e w5 ⟨rfl, hb5⟩; have h5 := blkB hb5 h3 (blkLt h3)) | (refine storeRow (c' := arr .i64 5 (fun _ => 0)) rfl rfl rfl rfl (congrArg Value.agg z5.symm) h5 (by rw [arr_size]; exact size5) rfl (arr_one _ _ _) ?_; intro w6 j1 j2 j3 j4))
        exact retRowTmp rfl rfl rfl j1 Tryd.underlying24 rfl (by rw [arr_size]; exact size5) rfl ⟨by rw [E.out.1, E.out.2]; rfl, belT (belW hBW hb5) j3 (by omega)⟩
      · have E := Aside0.mk (And.intro e1 e2)
        have x1 : ((ansS (numI ws)).toList != t.toList) = false := bne_eq_false_iff_eq.mpr (by rw [h1])
        have x2 : ((ansS (numI ws)).toList == t.toList) = true := beq_iff_eq.mpr (by rw [h1])
        have x3 : (t.toList == ([] : List UInt8)) = true := beq_iff_eq.mpr h2
        have x4 : (t.toList != ([] : List UInt8)) = false := bne_eq_false_iff_eq.mpr h2
        clear h1 h2 e1 e2
        go_wp2_with (first | ((with_reducible refine atDst 25 rfl ?_); refine loadRow 25 rfl rfl rfl rfl Tryd.underlying24 rfl hg (by rw [arr_size]; exact size5) ?_) | (go_at_call 9; refine HI.out.mono ?_; rintro e w5 ⟨rfl, hb5⟩; have h5 := blkB hb5 h3 (blkLt h3)) | (refine storeRow (c' := arr .i64 5 (fun _ => 0)) rfl rfl rfl rfl (congrArg Value.agg z5.symm) h5 (by rw [arr_size]; exact size5) rfl (arr_one _ _ _) ?_; intro w6 j1 j2 j3 j4))
        exact retRowTmp rfl rfl rfl j1 Tryd.underlying24 rfl (by rw [arr_size]; exact size5) rfl ⟨by rw [E.out.1, E.out.2]; rfl, belT (belW hBW hb5) j3 (by omega)⟩
end Go.Proofs.YtemhnmbbniminaaDoor.QV
