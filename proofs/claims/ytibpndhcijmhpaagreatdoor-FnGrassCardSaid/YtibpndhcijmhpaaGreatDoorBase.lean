/- Words for arrays of whole numbers as values: how they are read, set, cut and laid; no program in sight. -/
import Derived.WalkKit
import Derived.WalkSpells
import Derived.WalkLawsBesides
import Derived.Deep.WholeRow
import Derived.Deep.MidRow
import Derived.Deep.RegionHeld3
namespace Go.Proofs.YtibpndhcijmhpaaGreatDoor.B
set_option linter.unusedSimpArgs false
set_option linter.unusedVariables false
open Go.RowKit

theorem i8_in {x : Int} (h0 : -128 ≤ x) (h1 : x ≤ 127) : IntKind.i8.wrap x = x := by
  have e : IntKind.i8.bits = 8 := rfl
  have s : IntKind.i8.signed = true := rfl
  unfold IntKind.wrap
  simp only [e, s]
  simp
  omega
/-- Both ways of a test. -/
theorem twoways (b : Bool) : b = false ∨ b = true := by cases b <;> simp
/-- n cells of whole numbers of one kind. -/
def arr (k : IntKind) (n : Nat) (c : Nat → Int) : Array Value := Array.ofFn (n := n) fun i => .int k (c i.val)
theorem arr_size (k : IntKind) (n : Nat) (c : Nat → Int) : (arr k n c).size = n := by simp [arr]
theorem arr_get {k : IntKind} {n : Nat} {c : Nat → Int} {i : Nat} (h : i < n) : (arr k n c)[i]? = some (.int k (c i)) := by
  unfold arr; rw [Array.getElem?_ofFn, dif_pos h]
theorem arr_none {k : IntKind} {n : Nat} {c : Nat → Int} {i : Nat} (h : n ≤ i) : (arr k n c)[i]? = none := by
  unfold arr; rw [Array.getElem?_ofFn, dif_neg (by omega)]
theorem arr_congr {k : IntKind} {n : Nat} {c d : Nat → Int} (h : ∀ i, i < n → c i = d i) : arr k n c = arr k n d := by
  apply Array.ext_getElem?
  intro i
  by_cases hi : i < n
  · rw [arr_get hi, arr_get hi, h i hi]
  · rw [arr_none (by omega), arr_none (by omega)]
theorem arr_set {k : IntKind} {n : Nat} {c : Nat → Int} {i : Nat} {v : Int} : (arr k n c).setIfInBounds i (.int k v) = arr k n (fun j => if j = i then v else c j) := by
  apply Array.ext_getElem?
  intro j
  rw [Array.getElem?_setIfInBounds]
  by_cases hj : j < n
  · rw [arr_get hj, arr_size, arr_get hj]
    by_cases e : i = j
    · subst e; simp [hj]
    · rw [if_neg e, if_neg (fun h => e h.symm)]
  · rw [arr_none (by omega), arr_size, arr_none (by omega)]
    by_cases e : i = j
    · subst e; simp [hj]
    · rw [if_neg e]
theorem arr_inj {k : IntKind} {n : Nat} {c d : Nat → Int} (h : arr k n c = arr k n d) : ∀ i, i < n → c i = d i := by
  intro i hi
  have := congrArg (·[i]?) h
  simp only [arr_get hi, Option.some.injEq, Value.int.injEq, true_and] at this
  exact this
theorem arr_one (k : IntKind) (n : Nat) (c : Nat → Int) : (arr k n c).all (·.oneCell') = true :=
  Array.all_eq_true_iff_forall_mem.2 (fun v hv => by
    unfold arr at hv
    rw [Array.mem_ofFn] at hv
    obtain ⟨i, rfl⟩ := hv
    rfl)

/-- The first k of them, zeros behind. -/
def pref (c : Nat → Int) (k : Nat) : Nat → Int := fun j => if j < k then c j else 0
theorem pref_zero (kd : IntKind) (n : Nat) (c : Nat → Int) : arr kd n (pref c 0) = arr kd n (fun _ => 0) := arr_congr fun i _ => by simp [pref]
theorem pref_full (kd : IntKind) (n : Nat) (c : Nat → Int) : arr kd n (pref c n) = arr kd n c := arr_congr fun i hi => by simp [pref, hi]
theorem pref_step (kd : IntKind) (n : Nat) (c : Nat → Int) (k : Nat) : (arr kd n (pref c k)).setIfInBounds k (.int kd (c k)) = arr kd n (pref c (k + 1)) := by
  rw [arr_set]
  refine arr_congr fun i _ => ?_
  unfold pref
  by_cases h : i = k
  · subst h; simp
  · rw [if_neg h]
    by_cases h1 : i < k
    · rw [if_pos h1, if_pos (by omega)]
    · rw [if_neg h1, if_neg (by omega)]
theorem arr_extract {k : IntKind} {n m : Nat} {c : Nat → Int} {off : Nat} (h : off + m ≤ n) : (arr k n c).extract off (off + m) = arr k m (fun i => c (off + i)) := by
  apply Array.ext_getElem?
  intro i
  by_cases hi : i < m
  · rw [arr_get hi, Array.getElem?_extract, if_pos (by rw [arr_size]; omega), arr_get (by omega)]
  · rw [arr_none (by omega), Array.getElem?_extract, if_neg (by rw [arr_size]; omega)]
/-- A lawn: two sides and a hundred cells. -/
structure Lw where
  wide : Int
  high : Int
  c : Nat → Int
def Lw.cells (L : Lw) : Array Value := #[.int .i8 L.wide, .int .i8 L.high] ++ arr .u8 100 L.c
theorem Lw.size (L : Lw) : L.cells.size = 102 := by simp [Lw.cells, arr_size]
theorem Lw.get0 (L : Lw) : L.cells[0]? = some (.int .i8 L.wide) := by
  unfold Lw.cells; rw [Array.getElem?_append_left (by simp)]; rfl
theorem Lw.get1 (L : Lw) : L.cells[1]? = some (.int .i8 L.high) := by
  unfold Lw.cells; rw [Array.getElem?_append_left (by simp)]; rfl
theorem Lw.get2 (L : Lw) {i : Nat} (h : i < 100) : L.cells[2 + i]? = some (.int .u8 (L.c i)) := by
  unfold Lw.cells
  rw [Array.getElem?_append_right (by simp)]
  simpa using arr_get h
theorem Lw.ne (L : Lw) : ¬ (L.cells = #[]) := fun h => by have := congrArg Array.size h; rw [L.size] at this; simp at this
theorem Lw.getYX (L : Lw) {y x : Nat} (h : y * 10 + x < 100) : L.cells[2 + y * 10 + x]? = some (.int .u8 (L.c (y * 10 + x))) := by
  rw [Nat.add_assoc]; exact L.get2 h
theorem Lw.one (L : Lw) : L.cells.all (·.oneCell') = true := by
  unfold Lw.cells
  rw [Array.all_append, arr_one, Bool.and_true]
  exact Array.all_eq_true_iff_forall_mem.2 (fun v hv => by
    simp only [List.mem_toArray, List.mem_cons, List.not_mem_nil, or_false] at hv
    rcases hv with rfl | rfl <;> rfl)
theorem Lw.extract (L : Lw) : L.cells.extract 2 102 = arr .u8 100 L.c := by
  apply Array.ext_getElem?
  intro i
  by_cases hi : i < 100
  · rw [arr_get hi, Array.getElem?_extract, if_pos (by rw [L.size]; omega), L.get2 hi]
  · rw [arr_none (by omega), Array.getElem?_extract, if_neg (by rw [L.size]; omega)]
/-- The cells of a lawn, one by one. -/
theorem Lw.ext {L : Lw} {cs : Array Value} (hs : cs.size = 102) (h0 : cs[0]? = some (.int .i8 L.wide)) (h1 : cs[1]? = some (.int .i8 L.high)) (h2 : ∀ i, i < 100 → cs[2 + i]? = some (.int .u8 (L.c i))) : cs = L.cells := by
  apply Array.ext_getElem?
  intro i
  by_cases hi : i < 102
  · by_cases e0 : i = 0
    · subst e0; rw [h0, L.get0]
    · by_cases e1 : i = 1
      · subst e1; rw [h1, L.get1]
      · obtain ⟨j, rfl⟩ : ∃ j, i = 2 + j := ⟨i - 2, by omega⟩
        rw [h2 j (by omega), L.get2 (by omega)]
  · rw [Array.getElem?_eq_none (by omega), Array.getElem?_eq_none (by rw [L.size]; omega)]
theorem Lw.congr {L M : Lw} (h0 : L.wide = M.wide) (h1 : L.high = M.high) (h2 : ∀ i, i < 100 → L.c i = M.c i) : L.cells = M.cells :=
  Lw.ext L.size (by rw [L.get0, h0]) (by rw [L.get1, h1]) (fun i hi => by rw [L.get2 hi, h2 i hi])
theorem Lw.inj {L M : Lw} (h : L.cells = M.cells) : L.wide = M.wide ∧ L.high = M.high ∧ ∀ i, i < 100 → L.c i = M.c i := by
  have e0 := congrArg (·[0]?) h
  have e1 := congrArg (·[1]?) h
  simp only [Lw.get0, Lw.get1, Option.some.injEq, Value.int.injEq, true_and] at e0 e1
  refine ⟨e0, e1, fun i hi => ?_⟩
  have e2 := congrArg (·[2 + i]?) h
  simpa only [Lw.get2 _ hi, Option.some.injEq, Value.int.injEq, true_and] using e2
theorem Lw.set0 (L : Lw) (x : Int) : L.cells.setIfInBounds 0 (.int .i8 x) = Lw.cells { L with wide := x } := by
  refine Lw.ext (by rw [Array.size_setIfInBounds, L.size]) ?_ ?_ (fun j hj => ?_)
  · rw [Array.getElem?_setIfInBounds, if_pos rfl, if_pos (by rw [L.size]; omega)]
  · rw [Array.getElem?_setIfInBounds, if_neg (by omega), L.get1]
  · rw [Array.getElem?_setIfInBounds, if_neg (by omega), L.get2 hj]
theorem Lw.set1 (L : Lw) (x : Int) : L.cells.setIfInBounds 1 (.int .i8 x) = Lw.cells { L with high := x } := by
  refine Lw.ext (by rw [Array.size_setIfInBounds, L.size]) ?_ ?_ (fun j hj => ?_)
  · rw [Array.getElem?_setIfInBounds, if_neg (by omega), L.get0]
  · rw [Array.getElem?_setIfInBounds, if_pos rfl, if_pos (by rw [L.size]; omega)]
  · rw [Array.getElem?_setIfInBounds, if_neg (by omega), L.get2 hj]
theorem Lw.set2 (L : Lw) {i : Nat} (h : i < 100) (x : Int) : L.cells.setIfInBounds (2 + i) (.int .u8 x) = Lw.cells { L with c := fun j => if j = i then x else L.c j } := by
  refine Lw.ext (by rw [Array.size_setIfInBounds, L.size]) ?_ ?_ (fun j hj => ?_)
  · rw [Array.getElem?_setIfInBounds, if_neg (by omega), L.get0]
  · rw [Array.getElem?_setIfInBounds, if_neg (by omega), L.get1]
  · rw [Array.getElem?_setIfInBounds]
    by_cases e : j = i
    · subst e; rw [if_pos rfl, if_pos (by rw [L.size]; omega)]; simp
    · rw [if_neg (by omega), L.get2 hj]; simp [e]
attribute [irreducible] arr Lw.cells
/-! Blocks -/
theorem blkN {w : World} {g : Nat} {o : Obj} (h : g = w.heap.size) : (w.alloc o).heap[g]? = some o := by subst h; exact heap_alloc_new w o
theorem blkLt {w : World} {g : Nat} {o : Obj} (h : w.heap[g]? = some o) : g < w.heap.size := (Array.getElem?_eq_some_iff.1 h).1
theorem blkA {w : World} {g : Nat} {o o' : Obj} (h : w.heap[g]? = some o) : (w.alloc o').heap[g]? = some o := (Below.heap_alloc w o' g (blkLt h)).trans h
theorem blkB {w w1 : World} {g B : Nat} {o : Obj} (hb : Below B w w1) (h : w.heap[g]? = some o) (hg : g < B) : w1.heap[g]? = some o := (hb.block g hg).trans h
theorem blkC {w : World} {g : Nat} {t : TypeId} {cs : Array Value} (h : w.heap[g]? = some (.cells cs t (0, 0))) : ∀ i, w.cell? ⟨g, i, none⟩ = cs[i]? := fun i => cell_of_row w g i cs t (0, 0) h
theorem blkF {w : World} {g : Nat} {t : TypeId} {cs : Array Value} (h : w.heap[g]? = some (.cells cs t (0, 0))) : ∀ i, w.frozen? ⟨g, i, none⟩ = false := fun i => by simp [World.frozen?, h]
theorem blkS {w : World} {g : Nat} {t : TypeId} {cs : Array Value} (h : w.heap[g]? = some (.cells cs t (0, 0))) {i : Nat} {u : Value} : (w.setCell ⟨g, i, none⟩ u).heap[g]? = some (.cells (cs.setIfInBounds i u) t (0, 0)) := by
  rw [setCell_eq_setRow w g i cs t (0, 0) u h]; exact setRow_heap w g cs _ t _ h
theorem blkO {w : World} {g : Nat} {o : Obj} (h : w.heap[g]? = some o) {p : Addr} (hp : g ≠ p.block) {u : Value} : (w.setCell p u).heap[g]? = some o := (Below.heap_setCell w p u g hp).trans h
theorem belA {w W : World} {o : Obj} (h : Below w.heap.size w W) : Below w.heap.size w (W.alloc o) := h.alloc h.size o
theorem belD {w W : World} {B : Nat} (h : Below B w W) : Below B w W.drew := h.drew
theorem belDN {w W : World} {B n : Nat} (h : Below B w W) : Below B w (W.drewN n) := ⟨h.os, h.tape, h.output, h.size, h.block⟩
theorem blkDN {w : World} {g n : Nat} {o : Obj} (h : w.heap[g]? = some o) : (w.drewN n).heap[g]? = some o := h
theorem celD {w : World} {p : Addr} {v : Value} (h : w.cell? p = some v) : w.drew.cell? p = some v := h
theorem celO {w : World} {p q : Addr} {v u : Value} (h : w.cell? p = some v) (hne : p.block ≠ q.block) : (w.setCell q u).cell? p = some v := (World.cell?_setCell_other w q p u (fun e => hne (by rw [e]))).trans h
theorem blkD {w : World} {g : Nat} {o : Obj} (h : w.heap[g]? = some o) : w.drew.heap[g]? = some o := h
theorem belT {w W w1 : World} {B : Nat} (h : Below w.heap.size w W) (k : Below B W w1) (hB : w.heap.size ≤ B) : Below w.heap.size w w1 := h.trans (k.mono hB)
theorem belW {w W w1 : World} (h : Below w.heap.size w W) (k : Below W.heap.size W w1) : Below w.heap.size w w1 := h.trans (k.mono h.size)
theorem belS {w W : World} {p : Addr} {v : Value} (h : Below w.heap.size w W) (hp : w.heap.size ≤ p.block) : Below w.heap.size w (W.setCell p v) := h.setCell hp v
/-- Values laid into a block from a place on. -/
def setL : Array Value → Nat → List Value → Array Value
  | cs, _, [] => cs
  | cs, o, v :: r => setL (cs.setIfInBounds o v) (o + 1) r
theorem setL_get (l : List Value) : ∀ (cs : Array Value) (o i : Nat), (setL cs o l)[i]? = if o ≤ i ∧ i < o + l.length ∧ i < cs.size then l[i - o]? else cs[i]? := by
  induction l with
  | nil => intro cs o i; rw [if_neg (by simp only [List.length_nil]; omega)]; rfl
  | cons v r ih =>
    intro cs o i
    rw [setL, ih, Array.size_setIfInBounds, Array.getElem?_setIfInBounds]
    by_cases h : o = i
    · subst h
      rw [if_neg (by omega), if_pos rfl]
      by_cases h2 : o < cs.size
      · rw [if_pos h2, if_pos ⟨by omega, by simp only [List.length_cons]; omega, h2⟩]; simp
      · rw [if_neg h2, if_neg (by omega), Array.getElem?_eq_none (by omega)]
    · rw [if_neg h]
      by_cases h2 : o + 1 ≤ i ∧ i < o + 1 + r.length ∧ i < cs.size
      · rw [if_pos h2, if_pos ⟨by omega, by simp only [List.length_cons]; omega, h2.2.2⟩, show i - o = (i - (o + 1)) + 1 by omega]; simp
      · rw [if_neg h2, if_neg (by simp only [List.length_cons]; omega)]
theorem setCells_heap (l : List Value) : ∀ (o : Nat) (w : World) (cs : Array Value) (t : TypeId) (g : Nat), w.heap[g]? = some (.cells cs t (0, 0)) →
    (w.setCells g o l).heap[g]? = some (.cells (setL cs o l) t (0, 0)) ∧ (∀ k, k ≠ g → (w.setCells g o l).heap[k]? = w.heap[k]?) ∧ Below g w (w.setCells g o l) ∧ (w.setCells g o l).heap.size = w.heap.size := by
  induction l with
  | nil => intro o w cs t g h; exact ⟨h, fun _ _ => rfl, Below.refl _ _, rfl⟩
  | cons v r ih =>
    intro o w cs t g h
    obtain ⟨h1, h2, h3, h4⟩ := ih (o + 1) (w.setCell ⟨g, o, none⟩ v) (cs.setIfInBounds o v) t g (blkS h)
    exact ⟨h1, fun k hk => (h2 k hk).trans (Below.heap_setCell w ⟨g, o, none⟩ v k hk), ((Below.refl g w).setCell (p := ⟨g, o, none⟩) (Nat.le_refl _) v).trans h3, h4.trans (by simp [World.setCell])⟩
section
variable {P : Program} {ops : Array Oper} {rest : List Oper} {o : Oper} {a : Act} {Q : Exit → Act → World → Prop} {W : World}
theorem gateStore {p : Tmp} {t : TypeId} {v : Operand} (_ho : o.op = .store t (.tmp p) v) (h : wpList P ops Q (o :: rest) a W) : wpList P ops Q (o :: rest) a W := h
theorem gate {N : Tmp} (_hN : o.dst = some N) (h : wpList P ops Q rest a W) : wpList P ops Q rest a W := h
/-- For a look: the walk stands still here. -/
def Stop (p : Prop) : Prop := p
theorem stopAt (N : Tmp) (_hN : o.dst = some N) (h : Stop (wpList P ops Q (o :: rest) a W)) : wpList P ops Q (o :: rest) a W := h
/-- A whole row is read. -/
theorem loadRow (N : Tmp) (_hN : o.dst = some N) (hgd : o.guard = none) {ty : TypeId} {x : Operand} (ho : o.op = .load ty x) {g : Nat} (hx : a.eval x = .pointer (some ⟨g, 0, none⟩)) {t : TypeId} {cs : Array Value} {d : TypeDesc}
    (hu : P.underlying ty = some d) (hd : (match d with | .struct _ | .array _ _ => true | _ => false) = true) (hg : W.heap[g]? = some (.cells cs t (0, 0))) (hi : (P.info? ty).map (·.size) = some cs.size)
    (h : wpList P ops Q rest (a.put o.dst (.agg cs)) W) : wpList P ops Q (o :: rest) a W :=
  wpList_load_row hgd ty x ho g hx t cs (0, 0) d hg hu hd hi h
/-- A whole row is read, the operation's guard being met. -/
theorem loadRowG (N : Tmp) (hN : o.dst = some N) (hw : Region.wanted o (yielded ops a.tmps) = true) {ty : TypeId} {x : Operand} (ho : o.op = .load ty x) {g : Nat} (hx : a.eval x = .pointer (some ⟨g, 0, none⟩)) {t : TypeId} {cs : Array Value} {d : TypeDesc}
    (hu : P.underlying ty = some d) (hd : (match d with | .struct _ | .array _ _ => true | _ => false) = true) (hg : W.heap[g]? = some (.cells cs t (0, 0))) (hi : (P.info? ty).map (·.size) = some cs.size)
    (h : wpList P ops Q rest ⟨a.tmps.setIfInBounds N (.agg cs), a.defers⟩ W) : wpList P ops Q (o :: rest) a W := by
  refine wpList_step fun K hK => ?_
  rw [if_pos hw]
  unfold Oper.wp execOp
  simp only [ho, hx, Instr.loadAt, Instr.sureAddr, Sem.run_bind, Sem.run_pure, Result.andThen_ok, run_loadVar_row W g t ty cs (0, 0) d hg hu hd hi]
  show K (a.put o.dst _) W
  rw [hN]
  exact hK _ _ h
/-- A whole row is written. -/
theorem storeRow (hN : o.dst = none) (hgd : o.guard = none) {ty : TypeId} {x y : Operand} (ho : o.op = .store ty x y) {g : Nat} {c' : Array Value} (hx : a.eval x = .pointer (some ⟨g, 0, none⟩)) (hy : a.eval y = .agg c') {t : TypeId} {cs : Array Value}
    (hg : W.heap[g]? = some (.cells cs t (0, 0))) (hi : (P.info? ty).map (·.size) = some c'.size) (hs : cs.size = c'.size) (h1 : c'.all (·.oneCell') = true)
    (h : ∀ w1, w1.heap[g]? = some (.cells c' t (0, 0)) → (∀ k, k ≠ g → w1.heap[k]? = W.heap[k]?) → Below g W w1 → w1.heap.size = W.heap.size → wpList P ops Q rest a w1) : wpList P ops Q (o :: rest) a W := by
  refine wpList_plain hgd fun K hK => ?_
  unfold Oper.wp execOp
  simp only [ho, hx, hy, Instr.storeAt, Instr.sureAddr, Sem.run_bind, Sem.run_pure, Result.andThen_ok, run_storeVar_row W g t ty cs c' hg hi hs h1]
  show K (a.put o.dst undef) _
  rw [hN]
  exact hK _ _ (h _ (setRow_heap W g cs _ t _ hg) (fun k hk => setRow_other W g k _ hk) ⟨rfl, rfl, rfl, by simp, fun k hk => setRow_other W g k _ (by omega)⟩ (by simp))

/-- A row in the midst of a block is read. -/
theorem loadMid (N : Tmp) (_hN : o.dst = some N) (hgd : o.guard = none) {ty : TypeId} {x : Operand} (ho : o.op = .load ty x) {g off : Nat} (hx : a.eval x = .pointer (some ⟨g, off, none⟩)) {t : TypeId} {cs : Array Value} {d : TypeDesc} {kd : IntKind} {m : Nat} {c : Nat → Int}
    (hu : P.underlying ty = some d) (hd : d.isRow = true) (hg : W.heap[g]? = some (.cells cs t (0, 0))) (hc : ∀ i, i < m → cs[off + i]? = some (.int kd (c i))) (hi : (P.info? ty).map (·.size) = some m)
    (h : wpList P ops Q rest (a.put o.dst (.agg (arr kd m c))) W) : wpList P ops Q (o :: rest) a W := by
  have e : (arr kd m c).toList.toArray = arr kd m c := by simp
  refine wpList_load_mid hgd ty x ho g off hx (arr kd m c).toList d (fun j v hv => ?_) hu hd (by rw [hi]; simp [arr_size]) (by rw [e]; exact h)
  rw [cell_of_row W g (off + j) cs t (0, 0) hg]
  have hv' : (arr kd m c)[j]? = some v := by rw [← hv]; simp
  have hj : j < m := by
    by_cases hj : j < m
    · exact hj
    · rw [arr_none (by omega)] at hv'; cases hv'
  rw [hc j hj, ← hv', arr_get hj]
/-- A row in the midst of a block is written. -/
theorem storeMid (hN : o.dst = none) (hgd : o.guard = none) {ty : TypeId} {x y : Operand} (ho : o.op = .store ty x y) {g off : Nat} {xs : Array Value} (hx : a.eval x = .pointer (some ⟨g, off, none⟩)) (hy : a.eval y = .agg xs) {t : TypeId} {cs : Array Value}
    (hg : W.heap[g]? = some (.cells cs t (0, 0))) (hi : (P.info? ty).map (·.size) = some xs.size) (hs : off + xs.size ≤ cs.size) (h1 : xs.all (·.oneCell') = true) (cs' : Array Value) (hs' : cs'.size = cs.size) (hc' : ∀ i, i < cs.size → cs'[i]? = if off ≤ i ∧ i < off + xs.size then xs[i - off]? else cs[i]?)
    (h : ∀ w1, w1.heap[g]? = some (.cells cs' t (0, 0)) → (∀ k, k ≠ g → w1.heap[k]? = W.heap[k]?) → Below g W w1 → w1.heap.size = W.heap.size → wpList P ops Q rest a w1) : wpList P ops Q (o :: rest) a W := by
  refine wpList_store_mid hgd ty x y ho g off xs hx hy (fun j hj => ⟨?_, blkF hg _⟩) hi h1 ?_
  · rw [blkC hg, Array.getElem?_eq_getElem (by omega)]; rfl
  · obtain ⟨e1, e2, e3, e4⟩ := setCells_heap xs.toList off W cs t g hg
    rw [hN]
    refine h _ ?_ e2 e3 e4
    rw [e1]
    have : setL cs off xs.toList = cs' := by
      apply Array.ext_getElem?
      intro i
      rw [setL_get]
      by_cases hi' : i < cs.size
      · rw [hc' i hi']
        by_cases hr : off ≤ i ∧ i < off + xs.size
        · rw [if_pos hr, if_pos ⟨hr.1, by simpa using hr.2, hi'⟩]; simp
        · rw [if_neg hr, if_neg (fun hh => hr ⟨hh.1, by simpa using hh.2.1⟩)]
      · rw [if_neg (fun hh => hi' hh.2.2), Array.getElem?_eq_none (by omega), Array.getElem?_eq_none (by omega)]
    rw [this]
/-- The end of a function whose one result is a row in memory. -/
theorem retRow {fn : Func} {R : Ending → World → Prop} {p : Tmp} {ty : TypeId} (h : fn.results = #[.cell p ty]) {g : Nat} {t : TypeId} {cs : Array Value} {d : TypeDesc}
    (hp : a.tmps.getD p undef = .pointer (some ⟨g, 0, none⟩)) (hg : W.heap[g]? = some (.cells cs t (0, 0)))
    (hu : P.underlying ty = some d) (hd : (match d with | .struct _ | .array _ _ => true | _ => false) = true) (hi : (P.info? ty).map (·.size) = some cs.size) (hdf : a.defers = []) (hR : R (.returned (.agg cs)) W) : bodyPost P fn R .ret a W :=
  bodyPost_ret (results_cell_row h a.tmps W g t cs (0, 0) d hp hg hu hd hi) hdf hR

/-! A region that draws its order -/
/-- The end of a function whose first result is a row in memory, the second a slot. -/
theorem retRowTmp {fn : Func} {R : Ending → World → Prop} {p q : Tmp} {ty : TypeId} (h : fn.results = #[.cell p ty, .tmp q]) {g : Nat} {t : TypeId} {cs : Array Value} {d : TypeDesc} {v : Value}
    (hp : a.tmps.getD p undef = .pointer (some ⟨g, 0, none⟩)) (hq : a.tmps.getD q undef = v) (hg : W.heap[g]? = some (.cells cs t (0, 0)))
    (hu : P.underlying ty = some d) (hd : (match d with | .struct _ | .array _ _ => true | _ => false) = true) (hi : (P.info? ty).map (·.size) = some cs.size) (hdf : a.defers = []) (hR : R (.returned (.tuple #[.agg cs, v])) W) : bodyPost P fn R .ret a W := by
  refine bodyPost_ret (v := .tuple #[.agg cs, v]) ?_ hdf hR
  have hp' : a.tmps[p]?.getD undef = .pointer (some ⟨g, 0, none⟩) := by simpa using hp
  have hq' : a.tmps[q]?.getD undef = v := by simpa using hq
  simp [results, h, hp', hq', asAddr, run_loadVar_row W g t ty cs (0, 0) d hg hu hd hi]
variable {md : Region.Mode} {S : World → Prop} {fuel : Nat} {listed : Array Bool} {tm : Array Value} {df : List Deferred}
theorem put_some {N : Tmp} {v : Value} : (⟨tm, df⟩ : Act).put (some N) v = ⟨tm.setIfInBounds N v, df⟩ := rfl
/-- An operation that yields its value in every world that meets S is taken first. -/
theorem takeYield (i : Nat) {N : Tmp} {v : Value} (hi : ops[i]? = some o) (hN : o.dst = some N) (hs : Region.noSelect ops = true) (hf : Region.free md ops listed i = true) (hr : (Region.ready md ops listed).contains i = true)
    (hQ : ∀ c a w, Q (.panic c) (a.put (some N) v) w → Q (.panic c) a w) (hw : Region.wanted o (yielded ops tm) = true) (hv : ∀ w, S w → (execOp (Act.eval ⟨tm, df⟩) o).run P w = .ok (.value v) w) (hS : S W)
    (h : wpAnyH P md ops Q S fuel (listed.setIfInBounds i true) ⟨tm.setIfInBounds N v, df⟩ W) : wpAnyH P md ops Q S (fuel + 1) listed ⟨tm, df⟩ W :=
  wpAnyH_take hi hs hf hr (by rw [hN]; exact hQ) (.inl ⟨hw, hv⟩) hS (by rw [hN]; exact h)
/-- What yields in every world that meets S, or is not wanted, is taken first. -/
theorem takeAny (i : Nat) {dN : Option Tmp} {v : Value} (hi : ops[i]? = some o) (hN : o.dst = dN) (hs : Region.noSelect ops = true) (hf : Region.free md ops listed i = true) (hr : (Region.ready md ops listed).contains i = true)
    (hQ : ∀ c a w, Q (.panic c) (a.put dN v) w → Q (.panic c) a w) (hy : YieldsIf P ops S o v ⟨tm, df⟩) (hS : S W)
    (h : wpAnyH P md ops Q S fuel (listed.setIfInBounds i true) ((⟨tm, df⟩ : Act).put dN v) W) : wpAnyH P md ops Q S (fuel + 1) listed ⟨tm, df⟩ W :=
  wpAnyH_take hi hs hf hr (by rw [hN]; exact hQ) hy hS (by rw [hN]; exact h)
/-- A whole row is read first. -/
theorem takeRow (i : Nat) {N : Tmp} {cs : Array Value} (hi : ops[i]? = some o) (hN : o.dst = some N) (hs : Region.noSelect ops = true) (hf : Region.free md ops listed i = true) (hr : (Region.ready md ops listed).contains i = true)
    (hQ : ∀ c a w, Q (.panic c) (a.put (some N) (.agg cs)) w → Q (.panic c) a w) (hw : Region.wanted o (yielded ops tm) = true) {ty : TypeId} {x : Operand} (ho : o.op = .load ty x) {g : Nat} (hx : Act.eval ⟨tm, df⟩ x = .pointer (some ⟨g, 0, none⟩)) {t : TypeId} {d : TypeDesc}
    (hu : P.underlying ty = some d) (hd : (match d with | .struct _ | .array _ _ => true | _ => false) = true) (hg : ∀ w, S w → w.heap[g]? = some (.cells cs t (0, 0))) (hsz : (P.info? ty).map (·.size) = some cs.size) (hS : S W)
    (h : wpAnyH P md ops Q S fuel (listed.setIfInBounds i true) ⟨tm.setIfInBounds N (.agg cs), df⟩ W) : wpAnyH P md ops Q S (fuel + 1) listed ⟨tm, df⟩ W :=
  takeYield i hi hN hs hf hr hQ hw (fun w hw' => by
    unfold execOp
    simp only [ho, hx, Instr.loadAt, Instr.sureAddr, Sem.run_bind, Sem.run_pure, Result.andThen_ok, run_loadVar_row w g t ty cs (0, 0) d (hg w hw') hu hd hsz]) hS h
/-- A row in the midst of a block is read first. -/
theorem takeMid (i : Nat) {N : Tmp} {kd : IntKind} {m : Nat} {c : Nat → Int} (hi : ops[i]? = some o) (hN : o.dst = some N) (hs : Region.noSelect ops = true) (hf : Region.free md ops listed i = true) (hr : (Region.ready md ops listed).contains i = true)
    (hQ : ∀ c' a w, Q (.panic c') (a.put (some N) (.agg (arr kd m c))) w → Q (.panic c') a w) (hw : Region.wanted o (yielded ops tm) = true) {ty : TypeId} {x : Operand} (ho : o.op = .load ty x) {g off : Nat} (hx : Act.eval ⟨tm, df⟩ x = .pointer (some ⟨g, off, none⟩)) {t : TypeId} {cs : Array Value} {d : TypeDesc}
    (hu : P.underlying ty = some d) (hd : d.isRow = true) (hg : ∀ w, S w → w.heap[g]? = some (.cells cs t (0, 0))) (hc : ∀ i, i < m → cs[off + i]? = some (.int kd (c i))) (hsz : (P.info? ty).map (·.size) = some m) (hS : S W)
    (h : wpAnyH P md ops Q S fuel (listed.setIfInBounds i true) ⟨tm.setIfInBounds N (.agg (arr kd m c)), df⟩ W) : wpAnyH P md ops Q S (fuel + 1) listed ⟨tm, df⟩ W := by
  have e : (arr kd m c).toList.toArray = arr kd m c := by simp
  refine takeYield i hi hN hs hf hr hQ hw (fun w hw' => ?_) hS h
  have hrun := run_loadVar_mid (P := P) w g off ty (arr kd m c).toList d (fun j v hv => ?_) hu hd (by rw [hsz]; simp [arr_size])
  · rw [e] at hrun
    unfold execOp
    simp only [ho, hx, Instr.loadAt, Instr.sureAddr, Sem.run_bind, Sem.run_pure, Result.andThen_ok, hrun]
  · rw [cell_of_row w g (off + j) cs t (0, 0) (hg w hw')]
    have hv' : (arr kd m c)[j]? = some v := by rw [← hv]; simp
    have hj : j < m := by
      by_cases hj : j < m
      · exact hj
      · rw [arr_none (by omega)] at hv'; cases hv'
    rw [hc j hj, ← hv', arr_get hj]
/-- A copy of a slot or a constant. -/
theorem takeCopy (i : Nat) {N : Tmp} {v : Value} {x : Operand} (hi : ops[i]? = some o) (hN : o.dst = some N) (hs : Region.noSelect ops = true) (hf : Region.free md ops listed i = true) (hr : (Region.ready md ops listed).contains i = true)
    (hQ : ∀ c a w, Q (.panic c) (a.put (some N) v) w → Q (.panic c) a w) (hw : Region.wanted o (yielded ops tm) = true) (ho : o.op = .assign x ∨ o.op = .move x) (hx : Act.eval ⟨tm, df⟩ x = v) (hS : S W)
    (h : wpAnyH P md ops Q S fuel (listed.setIfInBounds i true) ⟨tm.setIfInBounds N v, df⟩ W) : wpAnyH P md ops Q S (fuel + 1) listed ⟨tm, df⟩ W :=
  takeYield i hi hN hs hf hr hQ hw (fun w _ => by
    unfold execOp
    rcases ho with ho | ho <;> simp [ho, hx]) hS h
theorem enters {f : FuncId} {fn : Func} (hf : P.funcs[f]? = some fn) (hname : (fn.name == "runtime.NumGoroutine") = false) (hb : fn.body.isSome = true) (args : Array Value) (w : World) : (callFunc f args).run P w = .ok (.enter f args) w := by
  have h1 : fn.name ≠ "runtime.NumGoroutine" := by simpa using hname
  obtain ⟨c, hc⟩ := Option.isSome_iff_exists.1 hb
  simp [callFunc, hf, h1, hc]
/-- One call is the next. -/
theorem nextCall (i : Nat) {N : Tmp} (hr : Region.ready md ops listed = [i]) (hi : ops[i]? = some o) (hN : o.dst = some N) (hw : Region.wanted o (yielded ops tm) = true) {f : FuncId} {fn : Func} {as : Array Operand} {ts : Array TypeId} (ho : o.op = .call { callee := .value (.func f), args := as, argTypes := ts })
    (hf : P.funcs[f]? = some fn) (hname : (fn.name == "runtime.NumGoroutine") = false) (hb : fn.body.isSome = true) (args : Array Value) (hargs : as.map (Act.eval ⟨tm, df⟩) = args)
    (h : Calls P f args W fun e w' => ∃ v, e = .returned v ∧ S w' ∧ wpAnyH P md ops Q S fuel (listed.setIfInBounds i true) ⟨tm.setIfInBounds N v, df⟩ w') : wpAnyH P md ops Q S (fuel + 1) listed ⟨tm, df⟩ W := by
  refine wpAnyH_ready hr (by simp) (AllReadyH.cons hi (fun K hK => ?_) AllReadyH.nil)
  rw [if_pos hw]
  have he := enters hf hname hb args W
  have hrun : (execOp (Act.eval ⟨tm, df⟩) o).run P W = .ok (.enter f args) W := by
    unfold execOp
    simp [ho, resolve, Deferred.ofValue, invoke, Act.eval, hargs, he]
  unfold Oper.wp
  rw [hrun, Oper.upon_enter]
  refine h.mono fun e w'' hh => ?_
  obtain ⟨v, rfl, hS, hk⟩ := hh
  show K ((⟨tm, df⟩ : Act).put o.dst v) w''
  rw [hN]
  exact hK.out _ _ hS (fun _ => hk)
/-- A variable that is a row is made. -/
theorem allocStep {K : Act → World → Prop} {N : Tmp} {ty : TypeId} {cs : Array Value} (hw : Region.wanted o (yielded ops a.tmps) = true) (hN : o.dst = some N) (ho : o.op = .alloc ty) (hz : ∀ w, (zeroValue ty).run P w = .ok (.agg cs) w)
    (h : ∀ g w1, W.heap.size ≤ g → g < w1.heap.size → w1.heap[g]? = some (.cells cs ty (0, 0)) → Below W.heap.size W w1 → K (a.put (some N) (.pointer (some ⟨g, 0, none⟩))) w1) :
    if Region.wanted o (yielded ops a.tmps) = true then Oper.wp P o a W K Q else K (a.put o.dst undef) W := by
  rw [if_pos hw]
  have := h W.heap.size (W.alloc (.cells cs ty)) (Nat.le_refl _) (by simp) (blkN rfl) (belA (Below.refl _ _))
  have hrun : (execOp a.eval o).run P W = .ok (.value (.pointer (some ⟨W.heap.size, 0, none⟩))) (W.alloc (.cells cs ty)) := by
    unfold execOp
    simp [go_sem, ho, hz]
  unfold Oper.wp
  rw [hrun]
  show K (a.put o.dst _) _
  rw [hN]
  exact this
/-- A row is written whole. -/
theorem storeStep {K : Act → World → Prop} {ty : TypeId} {x y : Operand} {g : Nat} {c' : Array Value} (hw : Region.wanted o (yielded ops a.tmps) = true) (hN : o.dst = none) (ho : o.op = .store ty x y) (hx : a.eval x = .pointer (some ⟨g, 0, none⟩)) (hy : a.eval y = .agg c') {t : TypeId} {cs : Array Value}
    (hg : W.heap[g]? = some (.cells cs t (0, 0))) (hi : (P.info? ty).map (·.size) = some c'.size) (hs : cs.size = c'.size) (h1 : c'.all (·.oneCell') = true)
    (h : ∀ w1, w1.heap[g]? = some (.cells c' t (0, 0)) → (∀ k, k ≠ g → w1.heap[k]? = W.heap[k]?) → Below g W w1 → w1.heap.size = W.heap.size → K a w1) :
    if Region.wanted o (yielded ops a.tmps) = true then Oper.wp P o a W K Q else K (a.put o.dst undef) W := by
  rw [if_pos hw]
  unfold Oper.wp execOp
  have e := run_storeVar_row (P := P) W g t ty cs c' hg hi hs h1
  simp only [ho, hx, hy, Instr.storeAt, Instr.sureAddr, Sem.run_bind, Sem.run_pure, Result.andThen_ok]
  rw [e]
  show K (a.put o.dst undef) _
  rw [hN]
  exact h _ (setRow_heap W g cs _ t _ hg) (fun k hk => setRow_other W g k _ hk) ⟨rfl, rfl, rfl, by simp, fun k hk => setRow_other W g k _ (by omega)⟩ (by simp)
end
end Go.Proofs.YtibpndhcijmhpaaGreatDoor.B
