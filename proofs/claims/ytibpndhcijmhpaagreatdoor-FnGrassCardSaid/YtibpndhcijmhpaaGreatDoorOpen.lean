/- Arguments that are arrays of whole numbers, or lawns: what their reading as data tells of their cells. -/
import Derived.Test.YtibpndhcijmhpaaGreatDoorBase
import Derived.ProofKit
import Derived.OpenShut
namespace Go.Proofs.YtibpndhcijmhpaaGreatDoor.B
set_option linter.unusedSimpArgs false
set_option linter.unusedVariables false
open Go.RowKit
section
variable {H : Type} {enc : TypeId × Value → H} {P : Program} {w : World} {base : Nat} {spare : Nat → Bool} {held : Bool}

/-- Cells that are whole numbers. -/
def IntsIn (k : IntKind) (n : Nat) (cs : List Value) : Prop := cs.length = n ∧ ∀ i, i < n → ∃ z, cs[i]? = some (.int k z) ∧ (Lit.int k z).wf = true
theorem IntsIn.arr {k : IntKind} {n : Nat} {cs : List Value} (h : IntsIn k n cs) : ∃ c : Nat → Int, cs = (arr k n c).toList ∧ ∀ i, i < n → (Lit.int k (c i)).wf = true := by
  obtain ⟨hl, hz⟩ := h
  refine ⟨fun i => intOf (cs[i]?.getD undef), ?_, fun i hi => ?_⟩
  · apply List.ext_getElem?
    intro i
    have e : ∀ A : Array Value, A.toList[i]? = A[i]? := fun A => by simp
    by_cases hi : i < n
    · obtain ⟨z, h1, _⟩ := hz i hi
      rw [e (B.arr k n _), arr_get hi, h1]; simp [intOf]
    · rw [e (B.arr k n _), arr_none (by omega), List.getElem?_eq_none (by omega)]
  · obtain ⟨z, h1, h2⟩ := hz i hi
    simpa [h1, intOf] using h2

theorem trod_one {t : TypeId} {k : IntKind} {fuel : Nat} {cs : List Value} {x : DataW H × List MemPlace} (ht : P.underlying t = some (.int k)) (h : DataW.trod enc P w base spare held fuel t cs = some x) :
    (∃ z, cs = [.int k z] ∧ (Lit.int k z).wf = true) ∧ x.2 = [] := by
  obtain ⟨z, h1, h2, h3⟩ := DataW.trod_int ht h
  exact ⟨⟨z, h1, h3⟩, by rw [h2]⟩

theorem flatMap_nil {α β : Type} {l : List (α × List β)} (h : ∀ i, (hi : i < l.length) → l[i].2 = []) : l.flatMap (·.2) = [] := by
  rw [List.flatMap_eq_nil_iff]
  intro x hx
  obtain ⟨i, hi, rfl⟩ := List.mem_iff_getElem.1 hx
  exact h i hi

/-- An array of whole numbers. -/
theorem trod_ints {t e : TypeId} {k : IntKind} {n fuel : Nat} {cs : List Value} {x : DataW H × List MemPlace} (ht : P.underlying t = some (.array n e)) (he : P.underlying e = some (.int k)) (hc : P.cellsOf e = 1) (hn : P.cellsOf t = n)
    (h : DataW.trod enc P w base spare held fuel t cs = some x) : IntsIn k n cs ∧ x.2 = [] := by
  obtain ⟨xs, m, rfl, rfl, hl, hx, hi⟩ := DataW.trod_array ht h
  refine ⟨⟨hl.trans hn, fun i hin => ?_⟩, flatMap_nil fun i hil => ?_⟩
  · have := hi i hin
    rw [List.getElem?_eq_getElem (by omega), hc, Nat.mul_one] at this
    obtain ⟨⟨z, h1, h2⟩, _⟩ := trod_one he this
    refine ⟨z, ?_, h2⟩
    have := congrArg (·[0]?) h1
    simpa using this
  · have := hi i (by omega)
    rw [List.getElem?_eq_getElem (by omega)] at this
    exact (trod_one he this).2

/-- An array of arrays of whole numbers. -/
theorem trod_ints2 {t u e : TypeId} {k : IntKind} {n m fuel : Nat} {cs : List Value} {x : DataW H × List MemPlace} (ht : P.underlying t = some (.array n u)) (hu : P.underlying u = some (.array m e)) (he : P.underlying e = some (.int k)) (hm : 0 < m)
    (hc : P.cellsOf e = 1) (hcu : P.cellsOf u = m) (hn : P.cellsOf t = n * m) (h : DataW.trod enc P w base spare held fuel t cs = some x) : IntsIn k (n * m) cs ∧ x.2 = [] := by
  obtain ⟨xs, q, rfl, rfl, hl, hx, hi⟩ := DataW.trod_array ht h
  refine ⟨⟨hl.trans hn, fun i hin => ?_⟩, flatMap_nil fun i hil => ?_⟩
  · have hj : i / m < n := by rw [Nat.div_lt_iff_lt_mul hm]; exact hin
    have := hi (i / m) hj
    rw [List.getElem?_eq_getElem (by omega), hcu] at this
    obtain ⟨⟨_, hz⟩, _⟩ := trod_ints hu he hc hcu this
    obtain ⟨z, h1, h2⟩ := hz (i % m) (Nat.mod_lt _ hm)
    refine ⟨z, ?_, h2⟩
    rw [List.getElem?_take, if_pos (Nat.mod_lt _ hm), List.getElem?_drop, Nat.mul_comm, Nat.div_add_mod] at h1
    exact h1
  · have := hi i (by omega)
    rw [List.getElem?_eq_getElem (by omega)] at this
    exact (trod_ints hu he hc hcu this).2

/-- A lawn. -/
theorem trod_lawn {t t8 t27 u e : TypeId} {fs : Array Field} {fuel : Nat} {cs : List Value} {x : DataW H × List MemPlace} (ht : P.underlying t = some (.struct fs)) (hfs : fs.toList.map (fun f => (f.type, f.offset)) = [(t8, 0), (t8, 1), (t27, 2)])
    (h8 : P.underlying t8 = some (.int .i8)) (h27 : P.underlying t27 = some (.array 10 u)) (hu : P.underlying u = some (.array 10 e)) (he : P.underlying e = some (.int .u8)) (hc8 : P.cellsOf t8 = 1) (hce : P.cellsOf e = 1) (hcu : P.cellsOf u = 10) (hc27 : P.cellsOf t27 = 100) (hn : P.cellsOf t = 102)
    (h : DataW.trod enc P w base spare held fuel t cs = some x) :
    (∃ L : Lw, cs = L.cells.toList ∧ (Lit.int .i8 L.wide).wf = true ∧ (Lit.int .i8 L.high).wf = true ∧ ∀ i, i < 100 → (Lit.int .u8 (L.c i)).wf = true) ∧ x.2 = [] := by
  obtain ⟨xs, q, rfl, rfl, hl, hx, hi⟩ := DataW.trod_struct ht h
  have hsz : fs.size = 3 := by have := congrArg List.length hfs; simpa using this
  have f0 := congrArg (·[0]?) hfs
  have f1 := congrArg (·[1]?) hfs
  have f2 := congrArg (·[2]?) hfs
  simp only [List.getElem?_map, Array.getElem?_toList, List.getElem?_cons_zero, List.getElem?_cons_succ, Option.map_eq_some_iff, Prod.mk.injEq] at f0 f1 f2
  obtain ⟨g0, q0, t0, o0⟩ := f0
  obtain ⟨g1, q1, t1, o1⟩ := f1
  obtain ⟨g2, q2, t2, o2⟩ := f2
  have r0 := hi 0 g0 q0
  have r1 := hi 1 g1 q1
  have r2 := hi 2 g2 q2
  rw [List.getElem?_eq_getElem (by omega), t0, o0, hc8] at r0
  rw [List.getElem?_eq_getElem (by omega), t1, o1, hc8] at r1
  rw [List.getElem?_eq_getElem (by omega), t2, o2, hc27] at r2
  obtain ⟨⟨z0, a0, b0⟩, e0⟩ := trod_one h8 r0
  obtain ⟨⟨z1, a1, b1⟩, e1⟩ := trod_one h8 r1
  obtain ⟨hI, e2⟩ := trod_ints2 (n := 10) (m := 10) h27 hu he (by omega) hce hcu hc27 r2
  obtain ⟨c, hc, hw⟩ := hI.arr
  refine ⟨⟨⟨z0, z1, c⟩, ?_, b0, b1, fun i hi => hw i hi⟩, flatMap_nil fun i hil => ?_⟩
  · have k0 := congrArg (·[0]?) a0
    have k1 := congrArg (·[0]?) a1
    simp only [List.getElem?_take, List.getElem?_drop, List.getElem?_cons_zero] at k0 k1
    have : cs.toArray = Lw.cells ⟨z0, z1, c⟩ := by
      refine Lw.ext (by simp [hl, hn]) (by simpa using k0) (by simpa using k1) (fun i hi => ?_)
      have k2 := congrArg (·[i]?) hc
      simp only [List.getElem?_take, List.getElem?_drop, Array.getElem?_toList] at k2
      rw [if_pos (by omega), arr_get (by omega)] at k2
      simpa using k2
    rw [← this]
  · have : i < 3 := by omega
    match i, this with
    | 0, _ => exact e0
    | 1, _ => exact e1
    | 2, _ => exact e2
/-- A lawn that came in, opened. -/
theorem open_lawn {W : World} {r : Reach} {b0 : Nat} {v : Value} {d : DataW H} {ps : List MemPlace} {t t8 t27 u e : TypeId} {fs : Array Field} (ht : P.underlying t = some (.struct fs)) (hfs : fs.toList.map (fun f => (f.type, f.offset)) = [(t8, 0), (t8, 1), (t27, 2)])
    (h8 : P.underlying t8 = some (.int .i8)) (h27 : P.underlying t27 = some (.array 10 u)) (hu : P.underlying u = some (.array 10 e)) (he : P.underlying e = some (.int .u8)) (hc8 : P.cellsOf t8 = 1) (hce : P.cellsOf e = 1) (hcu : P.cellsOf u = 10) (hc27 : P.cellsOf t27 = 100) (hn : P.cellsOf t = 102)
    (hval : Value.okWide P W r b0 t v) (hd : DataW.Trod enc P w base spare held t v d ps) :
    ∃ L : Lw, v = .agg L.cells ∧ ps = [] ∧ (Lit.int .i8 L.wide).wf = true ∧ (Lit.int .i8 L.high).wf = true ∧ ∀ i, i < 100 → (Lit.int .u8 (L.c i)).wf = true := by
  obtain ⟨c, rfl, _⟩ := Go.WideShapes.okWide_struct ht hval
  obtain ⟨fuel, hf⟩ := hd
  obtain ⟨⟨L, e0, w0, w1, w2⟩, z⟩ := trod_lawn ht hfs h8 h27 hu he hc8 hce hcu hc27 hn hf
  have e1 : c = L.cells := Array.toList_inj.1 e0
  exact ⟨L, by rw [e1], z, w0, w1, w2⟩
/-- Two whole numbers in a struct. -/
theorem open_pair {W : World} {r : Reach} {b0 : Nat} {v : Value} {d : DataW H} {ps : List MemPlace} {t t0 t1 : TypeId} {k0 k1 : IntKind} {fs : Array Field} (ht : P.underlying t = some (.struct fs)) (hfs : fs.toList.map (fun f => (f.type, f.offset)) = [(t0, 0), (t1, 1)])
    (h0 : P.underlying t0 = some (.int k0)) (h1 : P.underlying t1 = some (.int k1)) (hc0 : P.cellsOf t0 = 1) (hc1 : P.cellsOf t1 = 1) (hn : P.cellsOf t = 2)
    (hval : Value.okWide P W r b0 t v) (hd : DataW.Trod enc P w base spare held t v d ps) :
    ∃ x y : Int, v = .agg #[.int k0 x, .int k1 y] ∧ ps = [] ∧ (Lit.int k0 x).wf = true ∧ (Lit.int k1 y).wf = true := by
  obtain ⟨c, rfl, _⟩ := Go.WideShapes.okWide_struct ht hval
  obtain ⟨fuel, h⟩ := hd
  obtain ⟨xs, q, rfl, hx, hl, hxl, hi⟩ := DataW.trod_struct ht h
  have hsz : fs.size = 2 := by have := congrArg List.length hfs; simpa using this
  have f0 := congrArg (·[0]?) hfs
  have f1 := congrArg (·[1]?) hfs
  simp only [List.getElem?_map, Array.getElem?_toList, List.getElem?_cons_zero, List.getElem?_cons_succ, Option.map_eq_some_iff, Prod.mk.injEq] at f0 f1
  obtain ⟨g0, q0, u0, o0⟩ := f0
  obtain ⟨g1, q1, u1, o1⟩ := f1
  have r0 := hi 0 g0 q0
  have r1 := hi 1 g1 q1
  rw [List.getElem?_eq_getElem (by omega), u0, o0, hc0] at r0
  rw [List.getElem?_eq_getElem (by omega), u1, o1, hc1] at r1
  obtain ⟨⟨x, a0, b0⟩, e0⟩ := trod_one h0 r0
  obtain ⟨⟨y, a1, b1⟩, e1⟩ := trod_one h1 r1
  have hz : ps = [] := by
    have := congrArg Prod.snd hx
    refine Eq.trans this (flatMap_nil fun i hil => ?_)
    have : i < 2 := by omega
    match i, this with
    | 0, _ => exact e0
    | 1, _ => exact e1
  have hcl : c.toList.length = 2 := by rw [← hn]; exact hl
  have m0 := congrArg (·[0]?) a0
  have m1 := congrArg (·[0]?) a1
  simp only [List.getElem?_take, List.getElem?_drop, List.getElem?_cons_zero] at m0 m1
  refine ⟨x, y, ?_, hz, b0, b1⟩
  have hc : c = #[.int k0 x, .int k1 y] := by
    apply Array.ext_getElem?
    intro i
    by_cases hi2 : i < 2
    · match i, hi2 with
      | 0, _ => simpa [Value.cells] using m0
      | 1, _ => simpa [Value.cells] using m1
    · rw [Array.getElem?_eq_none (by simpa using (by simpa using hcl : c.size = 2) ▸ (by omega : 2 ≤ i)), Array.getElem?_eq_none (by simp; omega)]
  rw [hc]
/-- An array of whole numbers that came in. -/
theorem open_arr {W : World} {r : Reach} {b0 : Nat} {v : Value} {d : DataW H} {ps : List MemPlace} {t e : TypeId} {k : IntKind} {n : Nat} (ht : P.underlying t = some (.array n e)) (he : P.underlying e = some (.int k)) (hc : P.cellsOf e = 1) (hn : P.cellsOf t = n)
    (hval : Value.okWide P W r b0 t v) (hd : DataW.Trod enc P w base spare held t v d ps) : ∃ c : Nat → Int, v = .agg (arr k n c) ∧ ps = [] ∧ ∀ i, i < n → (Lit.int k (c i)).wf = true := by
  have hv : ∃ c, v = .agg c := by
    simp only [Value.okWide, ht] at hval
    obtain ⟨cs, h1, _⟩ := hval
    exact ⟨cs, h1⟩
  obtain ⟨c, rfl⟩ := hv
  obtain ⟨fuel, h⟩ := hd
  obtain ⟨hI, z⟩ := trod_ints ht he hc hn h
  obtain ⟨f, hf, hw⟩ := hI.arr
  have e1 : c = arr k n f := Array.toList_inj.1 hf
  exact ⟨f, by rw [e1], z, hw⟩
theorem open_arr2 {W : World} {r : Reach} {b0 : Nat} {v : Value} {d : DataW H} {ps : List MemPlace} {t u e : TypeId} {k : IntKind} {n m : Nat} (ht : P.underlying t = some (.array n u)) (hu : P.underlying u = some (.array m e)) (he : P.underlying e = some (.int k)) (hm : 0 < m)
    (hc : P.cellsOf e = 1) (hcu : P.cellsOf u = m) (hn : P.cellsOf t = n * m) (hval : Value.okWide P W r b0 t v) (hd : DataW.Trod enc P w base spare held t v d ps) : ∃ c : Nat → Int, v = .agg (arr k (n * m) c) ∧ ps = [] ∧ ∀ i, i < n * m → (Lit.int k (c i)).wf = true := by
  have hv : ∃ c, v = .agg c := by
    simp only [Value.okWide, ht] at hval
    obtain ⟨cs, h1, _⟩ := hval
    exact ⟨cs, h1⟩
  obtain ⟨c, rfl⟩ := hv
  obtain ⟨fuel, h⟩ := hd
  obtain ⟨hI, z⟩ := trod_ints2 ht hu he hm hc hcu hn h
  obtain ⟨f, hf, hw⟩ := hI.arr
  have e1 : c = arr k (n * m) f := Array.toList_inj.1 hf
  exact ⟨f, by rw [e1], z, hw⟩
end
theorem wf_i8 {x : Int} (h : (Lit.int .i8 x).wf = true) : -128 ≤ x ∧ x ≤ 127 := by
  have h1 : IntKind.i8.min = -128 := rfl
  have h2 : IntKind.i8.max = 127 := rfl
  simp only [Lit.wf, Bool.and_eq_true, decide_eq_true_eq, h1, h2] at h; exact h
theorem wf_u8 {x : Int} (h : (Lit.int .u8 x).wf = true) : 0 ≤ x ∧ x ≤ 255 := by
  have h1 : IntKind.u8.min = 0 := rfl
  have h2 : IntKind.u8.max = 255 := rfl
  simp only [Lit.wf, Bool.and_eq_true, decide_eq_true_eq, h1, h2] at h; exact h
theorem wf_i64 {x : Int} (h : (Lit.int .i64 x).wf = true) : -9223372036854775808 ≤ x ∧ x ≤ 9223372036854775807 := by
  have h1 : IntKind.i64.min = -9223372036854775808 := rfl
  have h2 : IntKind.i64.max = 9223372036854775807 := rfl
  simp only [Lit.wf, Bool.and_eq_true, decide_eq_true_eq, h1, h2] at h; exact h
end Go.Proofs.YtibpndhcijmhpaaGreatDoor.B
