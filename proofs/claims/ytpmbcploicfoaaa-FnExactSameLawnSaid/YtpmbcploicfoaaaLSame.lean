/- Walks: two lawns held against each other. -/
import Derived.Test.YtpmbcploicfoaaaLawn
import Derived.ChangeKeysEq
namespace Go.Proofs.Ytpmbcploicfoaaa.L
open Go.RowKit Go.Proofs.Ytpmbcploicfoaaa.B

theorem eqItems_ok {P : Program} {d : Nat} {e : TypeId} {m : Nat} {xs ys : Array Value} (f : Nat → Bool) (A B : Nat → Value) (w : World) :
    ∀ (is : List Nat), (∀ i, i ∈ is → (Go.part e xs (i * m)).run P w = .ok (A i) w ∧ (Go.part e ys (i * m)).run P w = .ok (B i) w ∧ (Op.equalIn d e (A i) (B i)).run P w = .ok (f i) w) →
    (Op.eqItems d e m xs ys is).run P w = .ok (is.all f) w
  | [], _ => by simp [Op.eqItems]
  | i :: is, h => by
    obtain ⟨h1, h2, h3⟩ := h i (by simp)
    have ih := eqItems_ok f A B w is (fun j hj => h j (by simp [hj]))
    simp only [Op.eqItems, Sem.run_bind, h1, h2, h3, Result.andThen_ok, List.all_cons]
    cases hfi : f i
    · simp
    · simpa using ih

/-- Ten cells held against ten cells. -/
def eq10 (a b : Nat → Int) : Bool := (List.range 10).all fun i => a i == b i
theorem info5 : ∃ i, Try.prog.info? 5 = some i ∧ Try.prog.cellsOf 5 = 1 := ⟨_, rfl, by kernel_rfl⟩
theorem info26 : ∃ i, Try.prog.info? 26 = some i ∧ Try.prog.cellsOf 26 = 10 := ⟨_, rfl, by kernel_rfl⟩
theorem equal10 (a b : Nat → Int) (d : Nat) (w : World) : (Op.equalIn (d + 2) 26 (.agg (arr .u8 10 a)) (.agg (arr .u8 10 b))).run Try.prog w = .ok (eq10 a b) w := by
  obtain ⟨i, hi, hc⟩ := info5
  rw [run_equalIn_array w (d + 1) _ _ Try.underlying26 hi, hc]
  refine eqItems_ok (fun i => a i == b i) (fun i => .int .u8 (a i)) (fun i => .int .u8 (b i)) w _ (fun j hj => ?_)
  have hj' : j < 10 := by simpa using hj
  have hp : Try.prog.plainKey 5 = true := by kernel_rfl
  refine ⟨run_part_plain w hp (by rw [Nat.mul_one]; exact arr_get hj'), run_part_plain w hp (by rw [Nat.mul_one]; exact arr_get hj'), run_equalIn_int w d _ .u8 .u8 _ _ Try.underlying5⟩

theorem run_part_agg {P : Program} {t : TypeId} {d : TypeDesc} {cs : Array Value} {off m : Nat} (w : World) (hu : P.underlying t = some d) (hd : d.isRow = true) (hi : (P.info? t).map (·.size) = some m) : (Go.part t cs off).run P w = .ok (.agg (cs.extract off (off + m))) w := by
  have hagg : (isAgg t).run P w = .ok true w := by
    unfold isAgg
    rw [Sem.run_bind, run_underlying hu w]
    cases d <;> simp_all
  cases hq : P.info? t with
  | none => simp [hq] at hi
  | some i =>
    have hs : i.size = m := by simpa [hq] using hi
    simp [Go.part, Sem.run_bind, hagg, sizeOf, typeInfo, hq, hs]

def eq100 (a b : Nat → Int) : Bool := (List.range 10).all fun j => eq10 (fun i => a (j * 10 + i)) (fun i => b (j * 10 + i))
theorem equal100 (a b : Nat → Int) (d : Nat) (w : World) : (Op.equalIn (d + 3) 27 (.agg (arr .u8 100 a)) (.agg (arr .u8 100 b))).run Try.prog w = .ok (eq100 a b) w := by
  obtain ⟨i, hi, hc⟩ := info26
  rw [run_equalIn_array w (d + 2) _ _ Try.underlying27 hi, hc]
  refine eqItems_ok (fun j => eq10 (fun i => a (j * 10 + i)) (fun i => b (j * 10 + i))) (fun j => .agg (arr .u8 10 (fun i => a (j * 10 + i)))) (fun j => .agg (arr .u8 10 (fun i => b (j * 10 + i)))) w _ (fun j hj => ?_)
  have hj' : j < 10 := by simpa using hj
  refine ⟨?_, ?_, equal10 _ _ d w⟩
  · rw [run_part_agg w Try.underlying26 rfl size10, arr_extract (by omega)]
  · rw [run_part_agg w Try.underlying26 rfl size10, arr_extract (by omega)]
theorem eq100_iff (a b : Nat → Int) : eq100 a b = true ↔ ∀ i, i < 100 → a i = b i := by
  unfold eq100 eq10
  simp only [List.all_eq_true, List.mem_range, beq_iff_eq]
  refine ⟨fun h i hi => ?_, fun h j hj i hi => h _ (by omega)⟩
  have := h (i / 10) (by omega) (i % 10) (by omega)
  rwa [show i / 10 * 10 + i % 10 = i by omega] at this

/-- Two lawns held against each other. -/
def eqLw (L M : Lw) : Bool := L.wide == M.wide && (L.high == M.high && eq100 L.c M.c)
theorem equalLw (L M : Lw) (w : World) : (Op.equalIn 10000 31 (.agg L.cells) (.agg M.cells)).run Try.prog w = .ok (eqLw L M) w := by
  have hp : Try.prog.plainKey 25 = true := by kernel_rfl
  have hs : Try.prog.stoodInHeld 31 = false := by kernel_rfl
  have hfs : (Try.prog.fieldsOf 31).toList.map (fun f => (f.name == "_", f.type, f.offset)) = [(false, 25, 0), (false, 25, 1), (false, 27, 2)] := by kernel_rfl
  rw [run_equalIn_struct w 9999 31 _ _ (by kernel_rfl) hs]
  generalize (Try.prog.fieldsOf 31).toList = fs at hfs
  simp only [List.map_eq_cons_iff, List.map_eq_nil_iff] at hfs
  obtain ⟨f0, r0, rfl, h0, f1, r1, rfl, h1, f2, r2, rfl, h2, rfl⟩ := hfs
  simp only [Prod.mk.injEq, beq_eq_false_iff_ne, ne_eq] at h0 h1 h2
  obtain ⟨n0, t0, o0⟩ := h0
  obtain ⟨n1, t1, o1⟩ := h1
  obtain ⟨n2, t2, o2⟩ := h2
  have a0 := run_part_plain w hp L.get0
  have a1 := run_part_plain w hp L.get1
  have b0 := run_part_plain w hp M.get0
  have b1 := run_part_plain w hp M.get1
  have a2 : (Go.part 27 L.cells 2).run Try.prog w = .ok (.agg (arr .u8 100 L.c)) w := by rw [run_part_agg w Try.underlying27 rfl (zero_of_info zero100).2, L.extract]
  have b2 : (Go.part 27 M.cells 2).run Try.prog w = .ok (.agg (arr .u8 100 M.c)) w := by rw [run_part_agg w Try.underlying27 rfl (zero_of_info zero100).2, M.extract]
  have e0 := run_equalIn_int (P := Try.prog) w 9998 25 .i8 .i8 L.wide M.wide Try.underlying25
  have e1 := run_equalIn_int (P := Try.prog) w 9998 25 .i8 .i8 L.high M.high Try.underlying25
  have e2 := equal100 L.c M.c 9996 w
  unfold eqLw
  simp only [Op.eqFields, n0, n1, n2, t0, t1, t2, o0, o1, o2, not_false_eq_true, if_true, Sem.run_bind, a0, b0, e0, Result.andThen_ok, ne_eq]
  cases h0 : L.wide == M.wide
  · simp
  · simp only [Bool.not_true, Bool.false_eq_true, if_false, Sem.run_bind, a1, b1, e1, Result.andThen_ok]
    cases h1 : L.high == M.high
    · simp
    · simp only [Bool.not_true, Bool.false_eq_true, if_false, Sem.run_bind, a2, b2, e2, Result.andThen_ok]
      cases h2 : eq100 L.c M.c <;> simp

theorem size31 : (Try.prog.info? 31).map (·.size) = some 102 := (zero_of_info zeroLw).2
theorem guard31 : Try.prog.eqGuardType Try.prog.depth 31 = false := by kernel_rfl

set_option maxHeartbeats 400000 in
theorem implSame (L M : Lw) (w : World) :
    Calls Try.prog 12 #[.agg L.cells, .agg M.cells] w fun e w' => e = .returned (.bool (eqLw L M)) ∧ Below w.heap.size w w' := by
  have hm := guard31
  have he := equalLw L M
  go_enter Try.func12, Try.ntmps12
  go_wp2_with (first | (refine loadRow 5 rfl rfl rfl rfl Try.underlying31 rfl (blkA (blkN (by simp))) (by rw [Lw.size]; exact size31) ?_) | (refine loadRow 6 rfl rfl rfl rfl Try.underlying31 rfl (blkN (by simp)) (by rw [Lw.size]; exact size31) ?_))
  go_ret
  exact ⟨rfl, belA (belA (Below.refl _ _))⟩
set_option maxHeartbeats 400000 in
theorem specSame (L M : Lw) (w : World) :
    Calls Try.prog 10 #[.agg L.cells, .agg M.cells] w fun e w' => e = .returned (.bool (eqLw L M)) ∧ Below w.heap.size w w' := by
  have hm := guard31
  have he := equalLw L M
  go_enter Try.func10, Try.ntmps10
  go_wp2_with (first | (refine loadRow 5 rfl rfl rfl rfl Try.underlying31 rfl (blkA (blkN (by simp))) (by rw [Lw.size]; exact size31) ?_) | (refine loadRow 6 rfl rfl rfl rfl Try.underlying31 rfl (blkN (by simp)) (by rw [Lw.size]; exact size31) ?_))
  go_ret
  exact ⟨rfl, belA (belA (Below.refl _ _))⟩
set_option maxHeartbeats 400000 in
theorem lawSame (L M : Lw) (w : World) :
    Calls Try.prog 5 #[.agg L.cells, .agg M.cells] w fun e w' => e = .returned (.bool true) ∧ Below w.heap.size w w' := by
  go_enter Try.func5, Try.ntmps5
  go_wp2
  refine wp_region_held_drew (S := fun w' => Below w.heap.size w w' ∧ w'.heap[w.heap.size]? = some (.cells L.cells 29 (0, 0)) ∧ w'.heap[w.heap.size + 1]? = some (.cells M.cells 29 (0, 0))) (by kernel_rfl) ⟨belD (belA (belA (Below.refl _ _))), blkD (blkA (blkN (by simp))), blkD (blkN (by simp))⟩ (fun hS => ?_)
  refine takeRow 0 rfl rfl (by kernel_rfl) (by kernel_rfl) (by kernel_rfl) (fun _ _ _ h => h) rfl rfl rfl Try.underlying29 rfl (fun w h => h.2.1) (by rw [Lw.size]; kernel_rfl) hS ?_
  refine takeRow 2 rfl rfl (by kernel_rfl) (by kernel_rfl) (by kernel_rfl) (fun _ _ _ h => h) rfl rfl rfl Try.underlying29 rfl (fun w h => h.2.2) (by rw [Lw.size]; kernel_rfl) hS ?_
  simp only [List.setIfInBounds_toArray, List.set_cons_zero, List.set_cons_succ]
  refine nextCall 1 (by kernel_rfl) rfl rfl rfl rfl Try.func11 (by kernel_rfl) rfl #[.agg L.cells] (by simp only [List.map_toArray, List.map_cons, List.map_nil]; rfl) ?_
  refine (toLawn _ _).mono ?_; rintro e w1 ⟨rfl, hb⟩
  have hS1 := belW hS.1 hb
  have hS2 := blkB hb hS.2.1 (blkLt hS.2.1)
  have hS3 := blkB hb hS.2.2 (blkLt hS.2.2)
  refine ⟨_, rfl, ⟨hS1, hS2, hS3⟩, ?_⟩
  clear hb hS
  refine nextCall 3 (by kernel_rfl) rfl rfl rfl rfl Try.func11 (by kernel_rfl) rfl #[.agg M.cells] (by simp only [List.map_toArray, List.map_cons, List.map_nil]; rfl) ?_
  refine (toLawn _ _).mono ?_; rintro e w2 ⟨rfl, hb⟩
  have hR1 := belW hS1 hb
  have hR2 := blkB hb hS2 (blkLt hS2)
  have hR3 := blkB hb hS3 (blkLt hS3)
  refine ⟨_, rfl, ⟨hR1, hR2, hR3⟩, ?_⟩
  clear hb hS1 hS2 hS3
  simp only [List.setIfInBounds_toArray, List.set_cons_zero, List.set_cons_succ]
  refine nextCall 4 (by kernel_rfl) rfl rfl rfl rfl Try.func10 (by kernel_rfl) rfl #[.agg L.cells, .agg M.cells] (by simp only [List.map_toArray, List.map_cons, List.map_nil]; rfl) ?_
  refine (specSame _ _ _).mono ?_; rintro e w3 ⟨rfl, hb⟩
  have hT1 := belW hR1 hb
  have hT2 := blkB hb hR2 (blkLt hR2)
  have hT3 := blkB hb hR3 (blkLt hR3)
  refine ⟨_, rfl, ⟨hT1, hT2, hT3⟩, ?_⟩
  clear hb hR1 hR2 hR3
  refine takeCopy 5 (v := .bool (eqLw L M)) rfl rfl (by kernel_rfl) (by kernel_rfl) (by kernel_rfl) (fun _ _ _ h => h) rfl (.inl rfl) rfl ⟨hT1, hT2, hT3⟩ ?_
  simp only [List.setIfInBounds_toArray, List.set_cons_zero, List.set_cons_succ]
  refine wpAnyH_done (by kernel_rfl) ?_ _
  go_wp2
  refine wp_region_held_drew (S := fun w' => Below w.heap.size w w' ∧ w'.heap[w.heap.size]? = some (.cells L.cells 29 (0, 0)) ∧ w'.heap[w.heap.size + 1]? = some (.cells M.cells 29 (0, 0))) (by kernel_rfl) ⟨belD hT1, blkD hT2, blkD hT3⟩ (fun hZ => ?_)
  refine takeRow 0 rfl rfl (by kernel_rfl) (by kernel_rfl) (by kernel_rfl) (fun _ _ _ h => h) rfl rfl rfl Try.underlying29 rfl (fun w h => h.2.1) (by rw [Lw.size]; kernel_rfl) hZ ?_
  refine takeRow 2 rfl rfl (by kernel_rfl) (by kernel_rfl) (by kernel_rfl) (fun _ _ _ h => h) rfl rfl rfl Try.underlying29 rfl (fun w h => h.2.2) (by rw [Lw.size]; kernel_rfl) hZ ?_
  simp only [List.setIfInBounds_toArray, List.set_cons_zero, List.set_cons_succ]
  refine nextCall 1 (by kernel_rfl) rfl rfl rfl rfl Try.func11 (by kernel_rfl) rfl #[.agg L.cells] (by simp only [List.map_toArray, List.map_cons, List.map_nil]; rfl) ?_
  refine (toLawn _ _).mono ?_; rintro e w1 ⟨rfl, hb⟩
  have hZ1 := belW hZ.1 hb
  have hZ2 := blkB hb hZ.2.1 (blkLt hZ.2.1)
  have hZ3 := blkB hb hZ.2.2 (blkLt hZ.2.2)
  refine ⟨_, rfl, ⟨hZ1, hZ2, hZ3⟩, ?_⟩
  clear hb hZ
  refine nextCall 3 (by kernel_rfl) rfl rfl rfl rfl Try.func11 (by kernel_rfl) rfl #[.agg M.cells] (by simp only [List.map_toArray, List.map_cons, List.map_nil]; rfl) ?_
  refine (toLawn _ _).mono ?_; rintro e w2 ⟨rfl, hb⟩
  have hR1 := belW hZ1 hb
  have hR2 := blkB hb hZ2 (blkLt hZ2)
  have hR3 := blkB hb hZ3 (blkLt hZ3)
  refine ⟨_, rfl, ⟨hR1, hR2, hR3⟩, ?_⟩
  clear hb hZ1 hZ2 hZ3
  simp only [List.setIfInBounds_toArray, List.set_cons_zero, List.set_cons_succ]
  refine nextCall 4 (by kernel_rfl) rfl rfl rfl rfl Try.func12 (by kernel_rfl) rfl #[.agg L.cells, .agg M.cells] (by simp only [List.map_toArray, List.map_cons, List.map_nil]; rfl) ?_
  refine (implSame _ _ _).mono ?_; rintro e w3 ⟨rfl, hb⟩
  have hT1 := belW hR1 hb
  have hT2 := blkB hb hR2 (blkLt hR2)
  have hT3 := blkB hb hR3 (blkLt hR3)
  refine ⟨_, rfl, ⟨hT1, hT2, hT3⟩, ?_⟩
  clear hb hR1 hR2 hR3
  refine takeCopy 5 (v := .bool (eqLw L M)) rfl rfl (by kernel_rfl) (by kernel_rfl) (by kernel_rfl) (fun _ _ _ h => h) rfl (.inl rfl) rfl ⟨hT1, hT2, hT3⟩ ?_
  simp only [List.setIfInBounds_toArray, List.set_cons_zero, List.set_cons_succ]
  refine wpAnyH_done (by kernel_rfl) ?_ _
  go_wp2

  go_ret
  exact ⟨rfl, hT1⟩
end Go.Proofs.Ytpmbcploicfoaaa.L
