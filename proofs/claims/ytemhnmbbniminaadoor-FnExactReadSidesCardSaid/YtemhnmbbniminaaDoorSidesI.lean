/- Walks: the program's text of sides, and the law. -/
import Derived.Test.YtemhnmbbniminaaDoorSidesW
namespace Go.Proofs.YtemhnmbbniminaaDoor.QV
set_option linter.unusedSimpArgs false
set_option linter.unusedVariables false
open Go.RowKit Go.Proofs.YtemhnmbbniminaaDoor.B Go.Proofs.YtemhnmbbniminaaDoorW.PrintWords Go.Proofs.YtemhnmbbniminaaDoorW.PrintLast Go.Proofs.YtemhnmbbniminaaDoorW.PrintMore

theorem arr5 (c : Nat → Int) : arr .i64 5 c = #[.int .i64 (c 0), .int .i64 (c 1), .int .i64 (c 2), .int .i64 (c 3), .int .i64 (c 4)] := by kernel_rfl
theorem idx5 (c : Nat → Int) (j : Nat) (h : j < 5) : ∀ w, (Instr.index 24 (.agg (arr .i64 5 c)) (.int .i64 (j : Int))).run Tryd.prog w = .ok (.int .i64 (c j)) w := by
  rw [arr5]
  have i0 : ∀ w, (Instr.index 24 (.agg #[.int .i64 (c 0), .int .i64 (c 1), .int .i64 (c 2), .int .i64 (c 3), .int .i64 (c 4)]) (.int .i64 0)).run Tryd.prog w = .ok (.int .i64 (c 0)) w := fun _ => by kernel_rfl
  have i1 : ∀ w, (Instr.index 24 (.agg #[.int .i64 (c 0), .int .i64 (c 1), .int .i64 (c 2), .int .i64 (c 3), .int .i64 (c 4)]) (.int .i64 1)).run Tryd.prog w = .ok (.int .i64 (c 1)) w := fun _ => by kernel_rfl
  have i2 : ∀ w, (Instr.index 24 (.agg #[.int .i64 (c 0), .int .i64 (c 1), .int .i64 (c 2), .int .i64 (c 3), .int .i64 (c 4)]) (.int .i64 2)).run Tryd.prog w = .ok (.int .i64 (c 2)) w := fun _ => by kernel_rfl
  have i3 : ∀ w, (Instr.index 24 (.agg #[.int .i64 (c 0), .int .i64 (c 1), .int .i64 (c 2), .int .i64 (c 3), .int .i64 (c 4)]) (.int .i64 3)).run Tryd.prog w = .ok (.int .i64 (c 3)) w := fun _ => by kernel_rfl
  have i4 : ∀ w, (Instr.index 24 (.agg #[.int .i64 (c 0), .int .i64 (c 1), .int .i64 (c 2), .int .i64 (c 3), .int .i64 (c 4)]) (.int .i64 4)).run Tryd.prog w = .ok (.int .i64 (c 4)) w := fun _ => by kernel_rfl
  match j, h with
  | 0, _ => exact i0
  | 1, _ => exact i1
  | 2, _ => exact i2
  | 3, _ => exact i3
  | 4, _ => exact i4
set_option maxRecDepth 100000 in
set_option maxHeartbeats 1000000 in
theorem iSides (c : Nat → Int) (w : World) (hT : TB w) :
    Calls Tryd.prog 9 #[.agg (arr .i64 5 c)] w fun e w' => e = .returned (.string (ansS c)) ∧ Below w.heap.size w w' := by
  have HT := Aside0.mk hT
  have HB := Aside0.mk (Below.refl w.heap.size w)
  clear hT
  go_enter Tryd.func9, Tryd.ntmps9
  go_wp2_with (first | ((with_reducible refine gate_dst (N := 6) rfl ?_); refine Kd.R_lit Kd.string _ 9 ?hg (N := 6) ?hd (xs := ([] : List ByteArray)) (inner := []) (ok := fun _ => True) (okp := fun _ => True) ?hr ?hp (fun _ hk => hk) trivial (Below.refl _ _) (Nat.le_refl _) (by simp) ?_; (case hd => rfl); (case hg => rfl); (case hr => first | (go_simp; done) | (go_simp; rfl)); (case hp => exact (Reps.none _ _)); intro v133 w2 ho3 hb hg_ hnew_; clear hg_ hnew_; (have n0_ := Aside0.mk (Kd.R_lower ho3 (below_size (by repeat (first | (with_reducible first | exact HB.out | apply below_alloc | apply pw_below_drewN | apply below_drew1) | exact HB.out)))); have n1_ := Aside0.mk (below_step (by repeat (first | (with_reducible first | exact HB.out | apply below_alloc | apply pw_below_drewN | apply below_drew1) | exact HB.out)) hb); have B1 := Aside0.mk ((blkB hb (blkN (w := w) rfl) (by simp) : w2.heap[w.heap.size]? = some (.cells (arr .i64 5 c) 24 (0, 0)))); clear HB; have HO134 := n0_; have HB := n1_; clear n0_ n1_; clear hb ho3)) | ((with_reducible refine gate_dst (N := 7) rfl ?_); refine loadRow 7 rfl rfl rfl rfl Tryd.underlying24 rfl B1.out (by rw [arr_size]; exact size5) ?_))
  go_loopw [3, 8] (fun v3 v8 w' => ∃ j : Nat, v8 = .int .i64 j ∧ j ≤ 5 ∧ (∀ i, i < j → inB (c i) = true) ∧ Aside0 (Kd.R Kd.string 9 w' w.heap.size (fun _ => True) v3 (pcs c j)) ∧ Aside0 (Below w.heap.size w w')) (fun _ v8 _ => 5 - (intOf v8).toNat)
  case atStart => exact ⟨0, rfl, by omega, fun i hi => by omega, ⟨by (with_reducible repeat (first | apply Kd.R_alloc | apply Kd.R_drewN | apply Kd.R_drew)); exact HO134.out⟩, ⟨by repeat (first | (with_reducible first | exact HB.out | apply below_alloc | apply pw_below_drewN | apply below_drew1) | exact HB.out)⟩⟩
  case round =>
    clear HB HO134 B1
    obtain ⟨j, rfl, hj, hall, HO_3, HB⟩ := hrel
    by_cases hlt : j < 5
    · have hd : decide ((j : Int) < 5) = true := by simp; omega
      have i0 := idx5 c j hlt
      have hI := Aside0.mk (fun w => impl_within.calls (c j) 0 400 _ w (in_i (c j)))
      rcases twoways (inB (c j)) with b | b
      · rw [b] at hI
        have e : ansS c = ⟨#[]⟩ := by unfold ansS; rw [told_bad hlt b]; rfl
        have E := Aside0.mk e
        clear e b
        go_wp2_with (first | (go_at_call 24; refine (hI.out _).mono ?_; rintro e w1 ⟨rfl, ⟨nd, rfl⟩⟩))
        go_ret
        exact ⟨by rw [E.out]; rfl, by repeat (first | exact HB.out | apply below_alloc | apply pw_below_drewN | apply below_drew1)⟩
      · rw [b] at hI
        have hin := inB_in b
        have HIN := Aside0.mk hin
        have HALL := Aside0.mk (show ∀ i, i < j + 1 → inB (c i) = true from fun i hi => by
          by_cases e : i = j
          · exact e ▸ b
          · exact hall i (by omega))
        have LM := Aside0.mk (show (pcs c j).length < 8796093022208 by rw [pcs_len]; omega)
        have E := Aside0.mk (pcs_succ c j)
        clear b hin hall
        have M := Aside0.mk (show ((j : Int) + 1) = ((j + 1 : Nat) : Int) by omega)
        go_wp2_with (first | (go_at_call 24; refine (hI.out _).mono ?_; rintro e w1 ⟨rfl, ⟨nd, rfl⟩⟩) | (go_at_call 25; refine (dec_to (c j) HIN.out.1 (by have := HIN.out.2; omega) _ (tb_any HT.out (by repeat (first | exact HB.out | apply below_alloc | apply pw_below_drewN | apply below_drew1)))).mono ?_; rintro e w1 ⟨rfl, hb⟩; have n0_ := Aside0.mk (Kd.R_below (by (with_reducible repeat (first | apply Kd.R_alloc | apply Kd.R_drewN | apply Kd.R_drew)); exact HO_3.out) hb); have n1_ := Aside0.mk (below_step (by repeat (first | (with_reducible first | exact HB.out | apply below_alloc | apply pw_below_drewN | apply below_drew1) | exact HB.out)) hb); clear HO_3; clear HB; have HO_3 := n0_; have HB := n1_; clear n0_ n1_; clear hb) | ((with_reducible refine gate_builtin (b := .append) (xs := #[.tmp 14, .tmp 17]) rfl ?_); at_builtin; refine Kd.R_append Kd.string (w0 := w) w.heap.size rfl (.tmp 14) (.tmp 17) 44 9 (.string ⟨#[]⟩) 16 rfl Tryd.underlying44 info9 rfl (by decide) (by omega) u3 (pcs c j) (dB (c j)) [.string (dB (c j))] (fun _ => True) (fun _ => False) rfl rfl ?aP (fun _ hk => hk.elim) ?aF ?aO ?aB ?aS ?aL ?_; (case aP => exact rfl); (case aB => exact (by repeat (first | (with_reducible first | exact HB.out | apply below_alloc | apply pw_below_drewN | apply below_drew1) | exact HB.out))); (case aF => exact (fun _ _ => trivial)); (case aO => exact (by (with_reducible repeat (first | apply Kd.R_alloc | apply Kd.R_drewN | apply Kd.R_drew)); exact HO_3.out)); (case aS => exact (below_size (by repeat (first | (with_reducible first | exact HB.out | apply below_alloc | apply pw_below_drewN | apply below_drew1) | exact HB.out)))); (case aL => have := LM.out; omega); intro v105 w13 ho hb hg hat; rw [← E.out] at ho; have n0_ := Aside0.mk (hb); have n1_ := Aside0.mk (ho); clear HB; clear HO_3; have HB := n0_; have HO106 := n1_; clear n0_ n1_; clear ho hb hg hat))
        exact ⟨⟨j + 1, by go_num, by omega, HALL.out, ⟨by (with_reducible repeat (first | apply Kd.R_alloc | apply Kd.R_drewN | apply Kd.R_drew)); exact HO106.out⟩, ⟨by repeat (first | (with_reducible first | exact HB.out | apply below_alloc | apply pw_below_drewN | apply below_drew1) | exact HB.out)⟩⟩, by simp [intOf]; omega⟩
    · obtain rfl : j = 5 := by omega
      have ht := told_good (fun i hi => hall i hi)
      have e : ansS c = txt c 5 := by unfold ansS; rw [ht]; rfl
      have E := Aside0.mk e
      have J := Aside0.mk (join5 c ht)
      clear e ht hall
      obtain ⟨Ao25, co25, eo25⟩ := Kd.R_slice HO_3.out
      subst eo25
      go_wp2_with (first | (go_at_call 26; (with_reducible refine (strings_Join.calls _ _ (pcs c 5) (⟨#[32]⟩ : ByteArray) _ _ ?side1 ?side2 J.out).mono ?_); (case side1 => repeat (first | exact (Kd.R_reads' HO_3.out).2.2 | (with_reducible refine Kd.C_alloc ?_ _) | (with_reducible refine Kd.C_drewN ?_ _) | (with_reducible refine Kd.C_drew ?_))); (case side2 => exact (Kd.R_reads' HO_3.out).2.1); rintro e w26 ⟨rfl, hb⟩))
      go_ret
      exact ⟨by rw [E.out]; rfl, below_step (by repeat (first | (with_reducible first | exact HB.out | apply below_alloc | apply pw_below_drewN | apply below_drew1) | exact HB.out)) hb⟩

set_option maxRecDepth 100000 in
set_option maxHeartbeats 1000000 in
theorem lawSidesText (c : Nat → Int) (w : World) (hT : TB w) :
    Calls Tryd.prog 3 #[.agg (arr .i64 5 c)] w fun e w' => e = .returned (.bool true) ∧ Below w.heap.size w w' := by
  have HT := Aside0.mk hT
  clear hT
  go_enter Tryd.func3, Tryd.ntmps3
  go_wp2_with (first | (refine loadRow 5 rfl rfl rfl rfl Tryd.underlying22 rfl (blkN rfl) (by rw [arr_size]; exact size5a) ?_) | (refine loadRow 8 rfl rfl rfl rfl Tryd.underlying22 rfl h2 (by rw [arr_size]; exact size5a) ?_) | (go_at_call 8; refine (toSides _ _).mono ?_; rintro e w1 ⟨rfl, hb⟩; first | (have hB := belW (belA (Below.refl w.heap.size w)) hb; have h1 : w1.heap[w.heap.size]? = some (.cells (arr .i64 5 c) 22 (0, 0)) := blkB hb (blkN rfl) (by simp)) | (have hB3 := belW hB2 hb)) | (go_at_call 7; refine (sSides _ _).mono ?_; rintro e w1 ⟨rfl, hb⟩; have hB2 := belW hB hb; have h2 := blkB hb h1 (blkLt h1)) | (go_at_call 9; refine (iSides _ _ (tb_any HT.out hB3)).mono ?_; rintro e w1 ⟨rfl, hb⟩; have hB4 := belW hB3 hb))
  go_ret
  exact ⟨rfl, hB4⟩
end Go.Proofs.YtemhnmbbniminaaDoor.QV
