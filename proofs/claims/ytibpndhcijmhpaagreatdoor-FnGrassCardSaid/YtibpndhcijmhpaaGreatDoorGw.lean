/- Words: what single operations of the law do, in a frame that is not written out. -/
import Derived.Great.Frames
import Derived.WalkKit
import Derived.BigQuiet
import Derived.Still
import Derived.Test.YtibpndhcijmhpaaGreatDoorQHx0
namespace Go.Proofs.YtibpndhcijmhpaaGreatDoor.B
open Go.RowKit Go.Proofs.YtibpndhcijmhpaaGreatDoorW.PrintLast Go.Proofs.YtibpndhcijmhpaaGreatDoorW.PrintWords Go.Proofs.YtibpndhcijmhpaaGreatDoor.QG
set_option linter.unusedSimpArgs false
set_option linter.unusedVariables false

/-- The first value that a list of slots tells of a slot. -/
def look : List (Nat × Value) → Nat → Option Value
  | [], _ => none
  | p :: m, i => bif Nat.beq p.1 i then some p.2 else look m i
/-- The frame has n slots, nothing is deferred, and these slots hold these values. -/
def Fr (n : Nat) (a : Act) (m : List (Nat × Value)) : Prop := a.tmps.size = n ∧ a.defers = [] ∧ ∀ i v, look m i = some v → a.eval (.tmp i) = v
/-- All that m' tells m tells too. -/
def Has (m : List (Nat × Value)) : List (Nat × Value) → Prop
  | [] => True
  | p :: t => look m p.1 = some p.2 ∧ Has m t
theorem Has.look {m : List (Nat × Value)} : ∀ {m' : List (Nat × Value)} (_ : Has m m') {i : Nat} {v : Value}, B.look m' i = some v → B.look m i = some v
  | [], _, _, _, h => by cases h
  | p :: t, hm, i, v, h => by
    unfold B.look at h
    cases e : Nat.beq p.1 i with
    | true =>
      rw [e] at h
      obtain rfl : p.1 = i := Nat.eq_of_beq_eq_true e
      have h2 : p.2 = v := Option.some.inj h
      subst h2
      exact hm.1
    | false => rw [e] at h; exact Has.look hm.2 h
section
variable {n : Nat} {a : Act} {m : List (Nat × Value)} {P : Program} {ops : Array Oper} {Q : Exit → Act → World → Prop} {W : World} {rest : List Oper} {o : Oper}
theorem Fr.at (h : Fr n a m) {i : Nat} {v : Value} (hm : look m i = some v) : a.eval (.tmp i) = v := h.2.2 _ _ hm
theorem Fr.sub (h : Fr n a m) {m' : List (Nat × Value)} (hs : Has m m') : Fr n a m' := ⟨h.1, h.2.1, fun _ _ hp => h.2.2 _ _ (hs.look hp)⟩
theorem Fr.put (h : Fr n a m) {d : Nat} (hd : Nat.blt d n = true) (v : Value) : Fr n (a.put (some d) v) ((d, v) :: m) := by
  have hd : d < n := by simpa using hd
  refine ⟨by rw [Act.size_put]; exact h.1, by rw [Act.defers_put']; exact h.2.1, fun i u hp => ?_⟩
  unfold look at hp
  cases e : Nat.beq d i with
  | true =>
    obtain rfl : d = i := Nat.eq_of_beq_eq_true e
    rw [e] at hp
    obtain rfl : v = u := Option.some.inj hp
    exact Act.eval_put_same _ _ _ (by rw [h.1]; exact hd)
  | false =>
    rw [e] at hp
    rw [Act.eval_put_ne _ _ _ _ (Nat.ne_of_beq_eq_false e)]
    exact h.2.2 _ _ hp
/-- What an operand is worth, by the list. -/
def val (m : List (Nat × Value)) : Operand → Option Value
  | .tmp i => look m i
  | .const v => some v
  | _ => none
theorem Fr.val (h : Fr n a m) {x : Operand} {v : Value} (e : B.val m x = some v) : a.eval x = v := by
  cases x with
  | tmp i => exact h.at e
  | const u => exact Option.some.inj e
  | _ => cases e
theorem want0 (hg : o.guard = none) : Region.wanted o (yielded ops a.tmps) = true := by unfold Region.wanted; rw [hg]
theorem Fr.yields (h : Fr n a m) {t d : Nat} {c : Bool} (ht : (ops[t]?).bind (·.dst) = some d) (hd : Nat.blt d n = true) (hm : look m d = some (.bool c)) : yielded ops a.tmps t = some c := by
  have hd : d < n := by simpa using hd
  have e := h.at hm
  have hlt : d < a.tmps.size := by rw [h.1]; exact hd
  have e2 : a.tmps[d]? = some (.bool c) := by
    rw [Array.getElem?_eq_getElem hlt]
    simpa [Act.eval, Array.getD, hlt] using e
  unfold yielded
  rw [ht, Option.bind_some, e2]
/-- The guard is met. -/
theorem Fr.want (h : Fr n a m) {t d : Nat} {b : Bool} (hg : o.guard = some (t, b)) (ht : (ops[t]?).bind (·.dst) = some d) (hd : Nat.blt d n = true) (hm : look m d = some (.bool b)) : Region.wanted o (yielded ops a.tmps) = true := by
  have e := h.yields ht hd hm
  unfold Region.wanted
  rw [hg]
  simp [e]
/-- The guard is not met. -/
theorem Fr.skip (h : Fr n a m) {t d : Nat} {b c : Bool} (hg : o.guard = some (t, b)) (ht : (ops[t]?).bind (·.dst) = some d) (hd : Nat.blt d n = true) (hm : look m d = some (.bool c)) (hn : (c == b) = false) : Region.wanted o (yielded ops a.tmps) = false := by
  have e := h.yields ht hd hm
  unfold Region.wanted
  rw [hg]
  simp [e] at hn ⊢
  exact hn
/-- An operation that yields a value and touches nothing. -/
theorem fr_pure (hw : Region.wanted o (yielded ops a.tmps) = true) {d : Nat} (hdst : o.dst = some d) (hd : Nat.blt d n = true) (hF : Fr n a m) {v : Value} (hr : (execOp a.eval o).run P W = .ok (.value v) W)
    (h : ∀ a', Fr n a' ((d, v) :: m) → wpList P ops Q rest a' W) : wpList P ops Q (o :: rest) a W := by
  refine BigFrame.wpList_want hw fun K hK => ?_
  unfold Oper.wp
  rw [hr]
  show K (a.put o.dst v) W
  rw [hdst]
  exact hK _ _ (h _ (hF.put hd v))
theorem fr_skip (hw : Region.wanted o (yielded ops a.tmps) = false) {d : Nat} (hdst : o.dst = some d) (hd : Nat.blt d n = true) (hF : Fr n a m)
    (h : ∀ a', Fr n a' ((d, undef) :: m) → wpList P ops Q rest a' W) : wpList P ops Q (o :: rest) a W :=
  wpList_step fun K hK => by
    rw [if_neg (by rw [hw]; exact Bool.false_ne_true), hdst]
    exact hK _ _ (h _ (hF.put hd undef))
/-- A call of a function whose contract is known. -/
theorem fr_call (hw : Region.wanted o (yielded ops a.tmps) = true) {f : FuncId} {fn : Func} {xs : Array Operand} {ts : Array TypeId} (hop : o.op = .call { callee := .value (.func f), args := xs, argTypes := ts }) {d : Nat} (hdst : o.dst = some d) (hd : Nat.blt d n = true) (hF : Fr n a m)
    (hf : P.funcs[f]? = some fn) (hname : (fn.name == "runtime.NumGoroutine") = false) (hb : fn.body.isSome = true) {args : Array Value} (hargs : xs.map a.eval = args)
    (h : Calls P f args W fun e W' => ∃ v, e = .returned v ∧ ∀ a', Fr n a' ((d, v) :: m) → wpList P ops Q rest a' W') : wpList P ops Q (o :: rest) a W := by
  refine wpList_step fun K hK => ?_
  exact goes_ hf hname hb args hw rfl hop hargs (h.mono fun e W' ⟨v, he, h2⟩ => ⟨v, he, by rw [hdst]; exact hK _ _ (h2 _ (hF.put hd v))⟩)
/-- The same steps where a region draws its order. -/
theorem fs_pure {R : Act → Prop} (hw : Region.wanted o (yielded ops a.tmps) = true) {d : Nat} (hdst : o.dst = some d) (hd : Nat.blt d n = true) (hF : Fr n a m) {v : Value} (hr : (execOp a.eval o).run P W = .ok (.value v) W)
    (h : ∀ a', Fr n a' ((d, v) :: m) → wpStill P ops W R rest a') : wpStill P ops W R (o :: rest) a := by
  refine wpStill_step fun K hK => ?_
  rw [if_pos hw]
  unfold Oper.still
  rw [hr, Oper.stillUpon_value, hdst]
  exact hK _ (h _ (hF.put hd v))
/-! ### What operations yield -/
variable {ρ : Operand → Value} {x y z : Operand} {t u r : TypeId}
theorem run_move (ho : o.op = .move x) : (execOp ρ o).run P W = .ok (.value (ρ x)) W := by unfold execOp; simp only [ho]; rfl
theorem run_assign (ho : o.op = .assign x) : (execOp ρ o).run P W = .ok (.value (ρ x)) W := by unfold execOp; simp only [ho]; rfl
theorem run_extract {j : Nat} {vs : Array Value} {v : Value} (ho : o.op = .extract x j) (hx : ρ x = .tuple vs) (hv : vs[j]? = some v) : (execOp ρ o).run P W = .ok (.value v) W := by unfold execOp; simp [ho, hx, Instr.extract, hv]; try rfl
theorem run_pick {b : Bool} (ho : o.op = .pick x y z) (ht : ρ x = .bool b) : (execOp ρ o).run P W = .ok (.value (if b then ρ y else ρ z)) W := by
  unfold execOp
  simp [ho, ht, go_sem]
  try (cases b <;> rfl)
theorem run_not {b : Bool} (ho : o.op = .unOp .not t x) (hx : ρ x = .bool b) : (execOp ρ o).run P W = .ok (.value (.bool (!b))) W := by
  unfold execOp
  simp [ho, hx, go_sem]
theorem run_neqB {b c : Bool} (ho : o.op = .binOp .neq 4 x y u) (hx : ρ x = .bool b) (hy : ρ y = .bool c) : (execOp ρ o).run Tryz.prog W = .ok (.value (.bool (b != c))) W := by
  have hu := Tryz.underlying4
  have e : ∀ d : Nat, (Op.equalIn (d + 1) 4 (.bool b) (.bool c)).run Tryz.prog W = .ok (b == c) W := fun d => by
    unfold Op.equalIn
    simp [go_sem, hu]
  have e2 : (Op.equalIn Op.maxDepth 4 (.bool b) (.bool c)).run Tryz.prog W = .ok (b == c) W := e _
  unfold execOp
  simp [ho, hx, hy, go_sem, binOp, Op.equal, e2, bne]
variable {k : IntKind} {i j : Int}
theorem run_neq (ho : o.op = .binOp .neq t x y u) (hx : ρ x = .int k i) (hy : ρ y = .int k j) : (execOp ρ o).run P W = .ok (.value (.bool (i != j))) W := by
  unfold execOp
  simp [ho, hx, hy, go_sem]
theorem run_eql (ho : o.op = .binOp .eql t x y u) (hx : ρ x = .int k i) (hy : ρ y = .int k j) : (execOp ρ o).run P W = .ok (.value (.bool (i == j))) W := by
  unfold execOp
  simp [ho, hx, hy, go_sem]
theorem run_lss (ho : o.op = .binOp .lss t x y u) (hx : ρ x = .int k i) (hy : ρ y = .int k j) : (execOp ρ o).run P W = .ok (.value (.bool (decide (i < j)))) W := by
  unfold execOp
  simp [ho, hx, hy, go_sem]
theorem run_leq (ho : o.op = .binOp .leq t x y u) (hx : ρ x = .int k i) (hy : ρ y = .int k j) : (execOp ρ o).run P W = .ok (.value (.bool (decide (i ≤ j)))) W := by
  unfold execOp
  simp [ho, hx, hy, go_sem]
theorem run_gtr (ho : o.op = .binOp .gtr t x y u) (hx : ρ x = .int k i) (hy : ρ y = .int k j) : (execOp ρ o).run P W = .ok (.value (.bool (decide (j < i)))) W := by
  unfold execOp
  simp [ho, hx, hy, go_sem]
theorem run_geq (ho : o.op = .binOp .geq t x y u) (hx : ρ x = .int k i) (hy : ρ y = .int k j) : (execOp ρ o).run P W = .ok (.value (.bool (decide (j ≤ i)))) W := by
  unfold execOp
  simp [ho, hx, hy, go_sem]
theorem run_add (ho : o.op = .binOp .add t x y u) (hx : ρ x = .int .i64 i) (hy : ρ y = .int .i64 j) : (execOp ρ o).run P W = .ok (.value (.int .i64 (wrap64 (i + j)))) W := by
  unfold execOp
  simp [ho, hx, hy, go_sem, i64_w]
theorem run_sub (ho : o.op = .binOp .sub t x y u) (hx : ρ x = .int .i64 i) (hy : ρ y = .int .i64 j) : (execOp ρ o).run P W = .ok (.value (.int .i64 (wrap64 (i - j)))) W := by
  unfold execOp
  simp [ho, hx, hy, go_sem, i64_w]
theorem run_mul (ho : o.op = .binOp .mul t x y u) (hx : ρ x = .int .i64 i) (hy : ρ y = .int .i64 j) : (execOp ρ o).run P W = .ok (.value (.int .i64 (wrap64 (i * j)))) W := by
  unfold execOp
  simp [ho, hx, hy, go_sem, i64_w]
theorem run_quo (ho : o.op = .binOp .quo t x y u) (hx : ρ x = .int .i64 i) (hy : ρ y = .int .i64 j) (h0 : j ≠ 0) : (execOp ρ o).run P W = .ok (.value (.int .i64 (wrap64 (i.tdiv j)))) W := by
  unfold execOp
  simp [ho, hx, hy, go_sem, i64_w, h0]
theorem run_conv (ho : o.op = .convert 41 2 x) (hx : ρ x = .int .i8 i) : (execOp ρ o).run Tryz.prog W = .ok (.value (.int .i64 (wrap64 i))) W := by
  have hu41 := Tryz.underlying41
  have hu2 := Tryz.underlying2
  unfold execOp
  simp [ho, hx, go_sem, i64_w, *]
theorem run_len24 {A : Option Addr} {l c : Nat} {xs : Array Operand} (ho : o.op = .call { callee := .builtin .len, args := #[x], argTypes := #[24] }) (hx : ρ x = .slice A l c) : (execOp ρ o).run Tryz.prog W = .ok (.value (.int .i64 l)) W := by
  have hu := Tryz.underlying24
  unfold execOp
  simp [ho, hx, go_sem, hu]
theorem run_len26 {A : Option Addr} {l c : Nat} {xs : Array Operand} (ho : o.op = .call { callee := .builtin .len, args := #[x], argTypes := #[26] }) (hx : ρ x = .slice A l c) : (execOp ρ o).run Tryz.prog W = .ok (.value (.int .i64 l)) W := by
  have hu := Tryz.underlying26
  unfold execOp
  simp [ho, hx, go_sem, hu]
theorem run_index24 {ad : Addr} {l c : Nat} (ho : o.op = .indexAddr 24 x y) (hx : ρ x = .slice (some ad) l c) (hy : ρ y = .int .i64 i) (h0 : 0 ≤ i) (h1 : i < l) : (execOp ρ o).run Tryz.prog W = .ok (.value (.pointer (some (ad.add (i.toNat * 2))))) W := by
  have hu := Tryz.underlying24
  have h43 := info43
  unfold execOp
  simp [ho, hx, hy, go_sem, hu, h0, h1]
theorem run_index26 {ad : Addr} {l c : Nat} (ho : o.op = .indexAddr 26 x y) (hx : ρ x = .slice (some ad) l c) (hy : ρ y = .int .i64 i) (h0 : 0 ≤ i) (h1 : i < l) : (execOp ρ o).run Tryz.prog W = .ok (.value (.pointer (some (ad.add i.toNat)))) W := by
  have hu := Tryz.underlying26
  unfold execOp
  simp [ho, hx, hy, go_sem, hu, h0, h1]
theorem run_field0 {ad : Addr} (ho : o.op = .fieldAddr 43 x 0) (hx : ρ x = .pointer (some ad)) : (execOp ρ o).run Tryz.prog W = .ok (.value (.pointer (some ad))) W := by
  have hu := Tryz.underlying43
  unfold execOp
  simp [ho, hx, go_sem, hu]
theorem run_field1 {ad : Addr} (ho : o.op = .fieldAddr 43 x 1) (hx : ρ x = .pointer (some ad)) : (execOp ρ o).run Tryz.prog W = .ok (.value (.pointer (some ⟨ad.block, ad.off + 1, none⟩))) W := by
  have hu := Tryz.underlying43
  unfold execOp
  simp [ho, hx, go_sem, hu]
theorem run_load2 {ad : Addr} {v : Value} (ho : o.op = .load 2 x) (hx : ρ x = .pointer (some ad)) (hc : W.cell? ad = some v) : (execOp ρ o).run Tryz.prog W = .ok (.value v) W := by
  unfold execOp
  simp [ho, hx, go_sem, hc]
theorem run_load41 {ad : Addr} {v : Value} (ho : o.op = .load 41 x) (hx : ρ x = .pointer (some ad)) (hc : W.cell? ad = some v) : (execOp ρ o).run Tryz.prog W = .ok (.value v) W := by
  unfold execOp
  simp [ho, hx, go_sem, hc]
theorem run_load43 {ad : Addr} {v0 v1 : Value} (ho : o.op = .load 43 x) (hx : ρ x = .pointer (some ad)) (h0 : W.cell? ad = some v0) (h1 : W.cell? ⟨ad.block, ad.off + 1, none⟩ = some v1) : (execOp ρ o).run Tryz.prog W = .ok (.value (.agg #[v0, v1])) W := by
  unfold execOp
  simp [ho, hx, go_sem, h0, h1]
end
end Go.Proofs.YtibpndhcijmhpaaGreatDoor.B
