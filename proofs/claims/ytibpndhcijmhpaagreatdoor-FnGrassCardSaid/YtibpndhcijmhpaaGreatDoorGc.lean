/- Words: what the functions that the law calls answer, and single steps of the law's body over a frame that is not written out. -/
import Derived.Test.YtibpndhcijmhpaaGreatDoorGw
import Derived.Test.YtibpndhcijmhpaaGreatDoorGrassL
namespace Go.Proofs.YtibpndhcijmhpaaGreatDoor.B
open Go.RowKit Go.Proofs.YtibpndhcijmhpaaGreatDoorW.PrintLast Go.Proofs.YtibpndhcijmhpaaGreatDoorW.PrintWords Go.Proofs.YtibpndhcijmhpaaGreatDoor.QG
set_option linter.unusedSimpArgs false
set_option linter.unusedVariables false

/-- A slice and the list that it bears: of bytes, of days, of numbers. -/
inductive Sl where
  | b (v : Value) (l : List Int)
  | d (v : Value) (l : List S43)
  | n (v : Value) (l : List Int)
def Sl.is (w : World) : Sl → Prop
  | .b v l => ∃ A c, v = .slice A l.length c ∧ l.length ≤ c ∧ Kd.C (Kd.int .u8) w A l.length l
  | .d v l => ∃ A c, v = .slice A l.length c ∧ l.length ≤ c ∧ Kd.C k43 w A l.length l
  | .n v l => ∃ A c, v = .slice A l.length c ∧ l.length ≤ c ∧ Kd.C (Kd.int .i64) w A l.length l
theorem Sl.below {w w' : World} {s : Sl} (h : s.is w) (hb : Below w.heap.size w w') : s.is w' := by
  cases s with
  | b v l => obtain ⟨A, c, e, hc, hk⟩ := h; exact ⟨A, c, e, hc, Kd.C_below hk hb⟩
  | d v l => obtain ⟨A, c, e, hc, hk⟩ := h; exact ⟨A, c, e, hc, Kd.C_below hk hb⟩
  | n v l => obtain ⟨A, c, e, hc, hk⟩ := h; exact ⟨A, c, e, hc, Kd.C_below hk hb⟩
/-- What is known of the world on the law's road: the slices in D bear their lists. -/
def St (w0 w : World) (D : List Sl) : Prop := GL w ∧ Below w0.heap.size w0 w ∧ ∀ s ∈ D, s.is w
theorem St.go {w0 w w' : World} {D : List Sl} (h : St w0 w D) (hb : Below w.heap.size w w') : St w0 w' D :=
  ⟨gl_any h.1 hb, below_then h.2.1 h.2.1.size hb, fun s hs => Sl.below (h.2.2 s hs) hb⟩
theorem St.add {w0 w : World} {D : List Sl} {s : Sl} (h : St w0 w D) (hs : s.is w) : St w0 w (s :: D) :=
  ⟨h.1, h.2.1, fun t ht => (List.mem_cons.1 ht).elim (fun e => e ▸ hs) (h.2.2 _)⟩
theorem St.get {w0 w : World} {D : List Sl} (h : St w0 w D) (j : Nat) {s : Sl} (e : D[j]? = some s) : s.is w := h.2.2 _ (List.mem_of_getElem? e)
theorem St.sub {w0 w : World} {D D' : List Sl} (h : St w0 w D) (hs : ∀ s ∈ D', s ∈ D) : St w0 w D' := ⟨h.1, h.2.1, fun s hs' => h.2.2 s (hs s hs')⟩
theorem St.pick {w0 w : World} {D D' : List Sl} (h : St w0 w D) (js : List Nat) (e : js.map (fun j => D[j]?) = D'.map some) : St w0 w D' :=
  h.sub fun s hs => by
    have h2 : some s ∈ D'.map some := List.mem_map.2 ⟨s, hs, rfl⟩
    rw [← e] at h2
    obtain ⟨j, -, h3⟩ := List.mem_map.1 h2
    exact List.mem_of_getElem? h3
theorem St.drew {w0 w : World} {D : List Sl} (h : St w0 w D) : St w0 { w with drawn := w.drawn + 1 } D := h.go (below_drew (Below.refl _ _))
/-- A function of the program that has a body. -/
def Good (f : FuncId) : Prop := ∃ fn, Tryz.prog.funcs[f]? = some fn ∧ (fn.name == "runtime.NumGoroutine") = false ∧ fn.body.isSome = true
theorem good4 : Good 4 := ⟨_, Tryz.func4, by kernel_rfl, by kernel_rfl⟩
theorem good5 : Good 5 := ⟨_, Tryz.func5, by kernel_rfl, by kernel_rfl⟩
theorem good6 : Good 6 := ⟨_, Tryz.func6, by kernel_rfl, by kernel_rfl⟩
theorem good7 : Good 7 := ⟨_, Tryz.func7, by kernel_rfl, by kernel_rfl⟩
theorem good8 : Good 8 := ⟨_, Tryz.func8, by kernel_rfl, by kernel_rfl⟩
theorem good9 : Good 9 := ⟨_, Tryz.func9, by kernel_rfl, by kernel_rfl⟩
theorem good10 : Good 10 := ⟨_, Tryz.func10, by kernel_rfl, by kernel_rfl⟩
theorem good11 : Good 11 := ⟨_, Tryz.func11, by kernel_rfl, by kernel_rfl⟩
theorem good12 : Good 12 := ⟨_, Tryz.func12, by kernel_rfl, by kernel_rfl⟩
theorem good13 : Good 13 := ⟨_, Tryz.func13, by kernel_rfl, by kernel_rfl⟩
theorem good14 : Good 14 := ⟨_, Tryz.func14, by kernel_rfl, by kernel_rfl⟩
theorem good15 : Good 15 := ⟨_, Tryz.func15, by kernel_rfl, by kernel_rfl⟩
theorem good16 : Good 16 := ⟨_, Tryz.func16, by kernel_rfl, by kernel_rfl⟩
theorem good17 : Good 17 := ⟨_, Tryz.func17, by kernel_rfl, by kernel_rfl⟩
theorem good18 : Good 18 := ⟨_, Tryz.func18, by kernel_rfl, by kernel_rfl⟩
theorem good19 : Good 19 := ⟨_, Tryz.func19, by kernel_rfl, by kernel_rfl⟩
theorem good20 : Good 20 := ⟨_, Tryz.func20, by kernel_rfl, by kernel_rfl⟩
theorem good21 : Good 21 := ⟨_, Tryz.func21, by kernel_rfl, by kernel_rfl⟩
theorem good22 : Good 22 := ⟨_, Tryz.func22, by kernel_rfl, by kernel_rfl⟩
theorem good23 : Good 23 := ⟨_, Tryz.func23, by kernel_rfl, by kernel_rfl⟩
theorem good24 : Good 24 := ⟨_, Tryz.func24, by kernel_rfl, by kernel_rfl⟩
theorem good25 : Good 25 := ⟨_, Tryz.func25, by kernel_rfl, by kernel_rfl⟩
theorem good26 : Good 26 := ⟨_, Tryz.func26, by kernel_rfl, by kernel_rfl⟩
theorem good27 : Good 27 := ⟨_, Tryz.func27, by kernel_rfl, by kernel_rfl⟩
theorem good28 : Good 28 := ⟨_, Tryz.func28, by kernel_rfl, by kernel_rfl⟩
theorem good29 : Good 29 := ⟨_, Tryz.func29, by kernel_rfl, by kernel_rfl⟩
theorem good30 : Good 30 := ⟨_, Tryz.func30, by kernel_rfl, by kernel_rfl⟩
theorem good31 : Good 31 := ⟨_, Tryz.func31, by kernel_rfl, by kernel_rfl⟩
theorem good32 : Good 32 := ⟨_, Tryz.func32, by kernel_rfl, by kernel_rfl⟩
section
variable {n : Nat} {a : Act} {m : List (Nat × Value)} {ops : Array Oper} {Q : Exit → Act → World → Prop} {w0 W : World} {D : List Sl} {rest : List Oper} {o : Oper} {f : FuncId} {ts : Array TypeId} {d : Nat}
theorem fv_call1 {x1 : Operand} {u1 v : Value} (hw : Region.wanted o (yielded ops a.tmps) = true) (hop : o.op = .call { callee := .value (.func f), args := #[x1], argTypes := ts }) (hdst : o.dst = some d) (hd : Nat.blt d n = true) (hF : Fr n a m) (h1 : val m x1 = some u1)
    (hg : Good f) (hS : St w0 W D) (hc : Calls Tryz.prog f #[u1] W fun e W' => e = .returned v ∧ Below W.heap.size W W')
    (h : ∀ a' W', Fr n a' ((d, v) :: m) → St w0 W' D → wpList Tryz.prog ops Q rest a' W') : wpList Tryz.prog ops Q (o :: rest) a W := by
  obtain ⟨fn, hf, hn, hb⟩ := hg
  have e1 := hF.val h1;
  refine fr_call hw hop hdst hd hF hf hn hb (args := #[u1]) (by simp [e1]) (hc.mono fun e W' ⟨he, hB⟩ => ⟨v, he, fun a' hF' => h a' W' hF' (hS.go hB)⟩)
theorem fs_call1 {x1 : Operand} {u1 : Value} {F : Value → Value} {mk : Value → Sl} (hw : Region.wanted o (yielded ops a.tmps) = true) (hop : o.op = .call { callee := .value (.func f), args := #[x1], argTypes := ts }) (hdst : o.dst = some d) (hd : Nat.blt d n = true) (hF : Fr n a m) (h1 : val m x1 = some u1)
    (hg : Good f) (hS : St w0 W D) (hc : Calls Tryz.prog f #[u1] W fun e W' => ∃ s, e = .returned (F s) ∧ (mk s).is W' ∧ Below W.heap.size W W')
    (h : ∀ a' W' s, Fr n a' ((d, F s) :: m) → St w0 W' (mk s :: D) → wpList Tryz.prog ops Q rest a' W') : wpList Tryz.prog ops Q (o :: rest) a W := by
  obtain ⟨fn, hf, hn, hb⟩ := hg
  have e1 := hF.val h1;
  refine fr_call hw hop hdst hd hF hf hn hb (args := #[u1]) (by simp [e1]) (hc.mono fun e W' ⟨s, he, hs, hB⟩ => ⟨F s, he, fun a' hF' => h a' W' s hF' ((hS.go hB).add hs)⟩)
theorem fv_call2 {x1 x2 : Operand} {u1 u2 v : Value} (hw : Region.wanted o (yielded ops a.tmps) = true) (hop : o.op = .call { callee := .value (.func f), args := #[x1, x2], argTypes := ts }) (hdst : o.dst = some d) (hd : Nat.blt d n = true) (hF : Fr n a m) (h1 : val m x1 = some u1) (h2 : val m x2 = some u2)
    (hg : Good f) (hS : St w0 W D) (hc : Calls Tryz.prog f #[u1, u2] W fun e W' => e = .returned v ∧ Below W.heap.size W W')
    (h : ∀ a' W', Fr n a' ((d, v) :: m) → St w0 W' D → wpList Tryz.prog ops Q rest a' W') : wpList Tryz.prog ops Q (o :: rest) a W := by
  obtain ⟨fn, hf, hn, hb⟩ := hg
  have e1 := hF.val h1; have e2 := hF.val h2;
  refine fr_call hw hop hdst hd hF hf hn hb (args := #[u1, u2]) (by simp [e1, e2]) (hc.mono fun e W' ⟨he, hB⟩ => ⟨v, he, fun a' hF' => h a' W' hF' (hS.go hB)⟩)
theorem fs_call2 {x1 x2 : Operand} {u1 u2 : Value} {F : Value → Value} {mk : Value → Sl} (hw : Region.wanted o (yielded ops a.tmps) = true) (hop : o.op = .call { callee := .value (.func f), args := #[x1, x2], argTypes := ts }) (hdst : o.dst = some d) (hd : Nat.blt d n = true) (hF : Fr n a m) (h1 : val m x1 = some u1) (h2 : val m x2 = some u2)
    (hg : Good f) (hS : St w0 W D) (hc : Calls Tryz.prog f #[u1, u2] W fun e W' => ∃ s, e = .returned (F s) ∧ (mk s).is W' ∧ Below W.heap.size W W')
    (h : ∀ a' W' s, Fr n a' ((d, F s) :: m) → St w0 W' (mk s :: D) → wpList Tryz.prog ops Q rest a' W') : wpList Tryz.prog ops Q (o :: rest) a W := by
  obtain ⟨fn, hf, hn, hb⟩ := hg
  have e1 := hF.val h1; have e2 := hF.val h2;
  refine fr_call hw hop hdst hd hF hf hn hb (args := #[u1, u2]) (by simp [e1, e2]) (hc.mono fun e W' ⟨s, he, hs, hB⟩ => ⟨F s, he, fun a' hF' => h a' W' s hF' ((hS.go hB).add hs)⟩)
theorem fv_call3 {x1 x2 x3 : Operand} {u1 u2 u3 v : Value} (hw : Region.wanted o (yielded ops a.tmps) = true) (hop : o.op = .call { callee := .value (.func f), args := #[x1, x2, x3], argTypes := ts }) (hdst : o.dst = some d) (hd : Nat.blt d n = true) (hF : Fr n a m) (h1 : val m x1 = some u1) (h2 : val m x2 = some u2) (h3 : val m x3 = some u3)
    (hg : Good f) (hS : St w0 W D) (hc : Calls Tryz.prog f #[u1, u2, u3] W fun e W' => e = .returned v ∧ Below W.heap.size W W')
    (h : ∀ a' W', Fr n a' ((d, v) :: m) → St w0 W' D → wpList Tryz.prog ops Q rest a' W') : wpList Tryz.prog ops Q (o :: rest) a W := by
  obtain ⟨fn, hf, hn, hb⟩ := hg
  have e1 := hF.val h1; have e2 := hF.val h2; have e3 := hF.val h3;
  refine fr_call hw hop hdst hd hF hf hn hb (args := #[u1, u2, u3]) (by simp [e1, e2, e3]) (hc.mono fun e W' ⟨he, hB⟩ => ⟨v, he, fun a' hF' => h a' W' hF' (hS.go hB)⟩)
theorem fs_call3 {x1 x2 x3 : Operand} {u1 u2 u3 : Value} {F : Value → Value} {mk : Value → Sl} (hw : Region.wanted o (yielded ops a.tmps) = true) (hop : o.op = .call { callee := .value (.func f), args := #[x1, x2, x3], argTypes := ts }) (hdst : o.dst = some d) (hd : Nat.blt d n = true) (hF : Fr n a m) (h1 : val m x1 = some u1) (h2 : val m x2 = some u2) (h3 : val m x3 = some u3)
    (hg : Good f) (hS : St w0 W D) (hc : Calls Tryz.prog f #[u1, u2, u3] W fun e W' => ∃ s, e = .returned (F s) ∧ (mk s).is W' ∧ Below W.heap.size W W')
    (h : ∀ a' W' s, Fr n a' ((d, F s) :: m) → St w0 W' (mk s :: D) → wpList Tryz.prog ops Q rest a' W') : wpList Tryz.prog ops Q (o :: rest) a W := by
  obtain ⟨fn, hf, hn, hb⟩ := hg
  have e1 := hF.val h1; have e2 := hF.val h2; have e3 := hF.val h3;
  refine fr_call hw hop hdst hd hF hf hn hb (args := #[u1, u2, u3]) (by simp [e1, e2, e3]) (hc.mono fun e W' ⟨s, he, hs, hB⟩ => ⟨F s, he, fun a' hF' => h a' W' s hF' ((hS.go hB).add hs)⟩)
theorem fv_call4 {x1 x2 x3 x4 : Operand} {u1 u2 u3 u4 v : Value} (hw : Region.wanted o (yielded ops a.tmps) = true) (hop : o.op = .call { callee := .value (.func f), args := #[x1, x2, x3, x4], argTypes := ts }) (hdst : o.dst = some d) (hd : Nat.blt d n = true) (hF : Fr n a m) (h1 : val m x1 = some u1) (h2 : val m x2 = some u2) (h3 : val m x3 = some u3) (h4 : val m x4 = some u4)
    (hg : Good f) (hS : St w0 W D) (hc : Calls Tryz.prog f #[u1, u2, u3, u4] W fun e W' => e = .returned v ∧ Below W.heap.size W W')
    (h : ∀ a' W', Fr n a' ((d, v) :: m) → St w0 W' D → wpList Tryz.prog ops Q rest a' W') : wpList Tryz.prog ops Q (o :: rest) a W := by
  obtain ⟨fn, hf, hn, hb⟩ := hg
  have e1 := hF.val h1; have e2 := hF.val h2; have e3 := hF.val h3; have e4 := hF.val h4;
  refine fr_call hw hop hdst hd hF hf hn hb (args := #[u1, u2, u3, u4]) (by simp [e1, e2, e3, e4]) (hc.mono fun e W' ⟨he, hB⟩ => ⟨v, he, fun a' hF' => h a' W' hF' (hS.go hB)⟩)
theorem fs_call4 {x1 x2 x3 x4 : Operand} {u1 u2 u3 u4 : Value} {F : Value → Value} {mk : Value → Sl} (hw : Region.wanted o (yielded ops a.tmps) = true) (hop : o.op = .call { callee := .value (.func f), args := #[x1, x2, x3, x4], argTypes := ts }) (hdst : o.dst = some d) (hd : Nat.blt d n = true) (hF : Fr n a m) (h1 : val m x1 = some u1) (h2 : val m x2 = some u2) (h3 : val m x3 = some u3) (h4 : val m x4 = some u4)
    (hg : Good f) (hS : St w0 W D) (hc : Calls Tryz.prog f #[u1, u2, u3, u4] W fun e W' => ∃ s, e = .returned (F s) ∧ (mk s).is W' ∧ Below W.heap.size W W')
    (h : ∀ a' W' s, Fr n a' ((d, F s) :: m) → St w0 W' (mk s :: D) → wpList Tryz.prog ops Q rest a' W') : wpList Tryz.prog ops Q (o :: rest) a W := by
  obtain ⟨fn, hf, hn, hb⟩ := hg
  have e1 := hF.val h1; have e2 := hF.val h2; have e3 := hF.val h3; have e4 := hF.val h4;
  refine fr_call hw hop hdst hd hF hf hn hb (args := #[u1, u2, u3, u4]) (by simp [e1, e2, e3, e4]) (hc.mono fun e W' ⟨s, he, hs, hB⟩ => ⟨F s, he, fun a' hF' => h a' W' s hF' ((hS.go hB).add hs)⟩)
end
theorem of_d {w : World} {base : Nat} {ok : Nat → Prop} {v : Value} {l : List S43} (h : Kd.R k43 43 w base ok v l) : (Sl.d v l).is w := Kd.R_reads h
theorem of_n {w : World} {base : Nat} {ok : Nat → Prop} {v : Value} {l : List Int} (h : Kd.R (Kd.int .i64) 2 w base ok v l) : (Sl.n v l).is w := Kd.R_reads h
theorem k_laws_f6big {w : World} {v0 : Value} {l0 : List Int} {r : Bool} (h0 : (Sl.b v0 l0).is w) (hf : laws_f6big.f l0 = some r) : Calls Tryz.prog 4 #[v0] w fun e w' => e = .returned (.bool r) ∧ Below w.heap.size w w' := by
  obtain ⟨A0, c0, rfl, hc0, hr0⟩ := h0
  exact Calls.mono (laws_f6big.calls (hr0 := hr0) (hc0 := hc0) (h := hf) (w := w)) fun e w' ⟨he, hB⟩ => ⟨he, hB.below⟩
theorem k_spec_P6Weather {w : World} {v0 : Value} {l0 : List Int} {r : List S43} (h0 : (Sl.b v0 l0).is w) (hf : Evn (fun k => spec_P6Weather.f k l0) r) : Calls Tryz.prog 5 #[v0] w fun e w' => ∃ s, e = .returned s ∧ (Sl.d s r).is w' ∧ Below w.heap.size w w' := by
  obtain ⟨A0, c0, rfl, hc0, hr0⟩ := h0
  obtain ⟨k, hk⟩ := hf.ex
  exact Calls.mono (spec_P6Weather.calls (k := k) (hr0 := hr0) (hc0 := hc0) (h := hk) (w := w)) fun e w' ⟨s, he, hR, hB⟩ => ⟨s, he, of_d hR, hB⟩
theorem k_spec_P6Plan {w : World} {v0 : Value} {l0 : List Int} {i1 : Int} {r : List Int} (h0 : (Sl.b v0 l0).is w) (hf : Evn (fun k => spec_P6Plan.f k l0 i1) r) : Calls Tryz.prog 6 #[v0, .int .i64 i1] w fun e w' => ∃ s, e = .returned s ∧ (Sl.n s r).is w' ∧ Below w.heap.size w w' := by
  obtain ⟨A0, c0, rfl, hc0, hr0⟩ := h0
  obtain ⟨k, hk⟩ := hf.ex
  exact Calls.mono (spec_P6Plan.calls (k := k) (hr0 := hr0) (hc0 := hc0) (h := hk) (w := w)) fun e w' ⟨s, he, hR, hB⟩ => ⟨s, he, of_n hR, hB⟩
theorem k_spec_P6Pick {w : World} {v0 : Value} {l0 : List Int} {i1 : Int} {r : Int} (h0 : (Sl.b v0 l0).is w) (hf : spec_P6Pick.f l0 i1 = some r) : Calls Tryz.prog 7 #[v0, .int .i64 i1] w fun e w' => e = .returned (.int .i64 r) ∧ Below w.heap.size w w' := by
  obtain ⟨A0, c0, rfl, hc0, hr0⟩ := h0
  exact Calls.mono (spec_P6Pick.calls (hr0 := hr0) (hc0 := hc0) (h := hf) (w := w)) fun e w' ⟨he, hB⟩ => ⟨he, hB⟩
theorem k_impl_WeatherText {w : World} {v0 : Value} {l0 : List S43} {r : ByteArray} (h0 : (Sl.d v0 l0).is w) (hf : Evn (fun k => impl_WeatherText.f k l0) r) : Calls Tryz.prog 9 #[v0] w fun e w' => e = .returned (.string r) ∧ Below w.heap.size w w' := by
  obtain ⟨A0, c0, rfl, hc0, hr0⟩ := h0
  obtain ⟨k, hk⟩ := hf.ex
  exact Calls.mono (impl_WeatherText.calls (k := k) (hr0 := hr0) (hc0 := hc0) (h := hk) (w := w)) fun e w' ⟨he, hB⟩ => ⟨he, hB⟩
theorem k_impl_ReadWeather {w : World} {t0 : ByteArray} {r : List S43} {q : Int} (hG : GL w)  (hf : Evn (fun k => impl_ReadWeather.f k t0) (r, q)) : Calls Tryz.prog 8 #[.string t0] w fun e w' => ∃ s, e = .returned (.tuple #[s, .int .i64 q]) ∧ (Sl.d s r).is w' ∧ Below w.heap.size w w' := by
  obtain ⟨k, hk⟩ := hf.ex
  exact Calls.mono (impl_ReadWeather.calls (k := k) (hG_ := hG) (h := hk) (w := w)) fun e w' ⟨s, he, hR, hB⟩ => ⟨s, he, of_d hR, hB⟩
theorem k_impl_GrowthAll {w : World} {v0 : Value} {l0 : List S43} {r : List Int} {q : Int} (h0 : (Sl.d v0 l0).is w) (hf : Evn (fun k => impl_GrowthAll.f k l0) (r, q)) : Calls Tryz.prog 10 #[v0] w fun e w' => ∃ s, e = .returned (.tuple #[s, .int .i64 q]) ∧ (Sl.n s r).is w' ∧ Below w.heap.size w w' := by
  obtain ⟨A0, c0, rfl, hc0, hr0⟩ := h0
  obtain ⟨k, hk⟩ := hf.ex
  exact Calls.mono (impl_GrowthAll.calls (k := k) (hr0 := hr0) (hc0 := hc0) (h := hk) (w := w)) fun e w' ⟨s, he, hR, hB⟩ => ⟨s, he, of_n hR, hB⟩
theorem k_spec_GrowthAll {w : World} {v0 : Value} {l0 : List S43} {r : List Int} {q : Int} (h0 : (Sl.d v0 l0).is w) (hf : Evn (fun k => spec_GrowthAll.f k l0) (r, q)) : Calls Tryz.prog 11 #[v0] w fun e w' => ∃ s, e = .returned (.tuple #[s, .int .i64 q]) ∧ (Sl.n s r).is w' ∧ Below w.heap.size w w' := by
  obtain ⟨A0, c0, rfl, hc0, hr0⟩ := h0
  obtain ⟨k, hk⟩ := hf.ex
  exact Calls.mono (spec_GrowthAll.calls (k := k) (hr0 := hr0) (hc0 := hc0) (h := hk) (w := w)) fun e w' ⟨s, he, hR, hB⟩ => ⟨s, he, of_n hR, hB⟩
theorem k_impl_HeightsOf {w : World} {i0 : Int} {i1 : Int} {v2 : Value} {l2 : List S43} {v3 : Value} {l3 : List Int} {r : List Int} {q : Int} (h2 : (Sl.d v2 l2).is w) (h3 : (Sl.n v3 l3).is w) (hf : Evn (fun k => impl_HeightsOf.f k i0 i1 l2 l3) (r, q)) : Calls Tryz.prog 12 #[.int .i64 i0, .int .i64 i1, v2, v3] w fun e w' => ∃ s, e = .returned (.tuple #[s, .int .i64 q]) ∧ (Sl.n s r).is w' ∧ Below w.heap.size w w' := by
  obtain ⟨A2, c2, rfl, hc2, hr2⟩ := h2
  obtain ⟨A3, c3, rfl, hc3, hr3⟩ := h3
  obtain ⟨k, hk⟩ := hf.ex
  exact Calls.mono (impl_HeightsOf.calls (k := k) (hr2 := hr2) (hc2 := hc2) (hr3 := hr3) (hc3 := hc3) (h := hk) (w := w)) fun e w' ⟨s, he, hR, hB⟩ => ⟨s, he, of_n hR, hB⟩
theorem k_spec_HeightsOf {w : World} {i0 : Int} {i1 : Int} {v2 : Value} {l2 : List S43} {v3 : Value} {l3 : List Int} {r : List Int} {q : Int} (h2 : (Sl.d v2 l2).is w) (h3 : (Sl.n v3 l3).is w) (hf : Evn (fun k => spec_HeightsOf.f k i0 i1 l2 l3) (r, q)) : Calls Tryz.prog 13 #[.int .i64 i0, .int .i64 i1, v2, v3] w fun e w' => ∃ s, e = .returned (.tuple #[s, .int .i64 q]) ∧ (Sl.n s r).is w' ∧ Below w.heap.size w w' := by
  obtain ⟨A2, c2, rfl, hc2, hr2⟩ := h2
  obtain ⟨A3, c3, rfl, hc3, hr3⟩ := h3
  obtain ⟨k, hk⟩ := hf.ex
  exact Calls.mono (spec_HeightsOf.calls (k := k) (hr2 := hr2) (hc2 := hc2) (hr3 := hr3) (hc3 := hc3) (h := hk) (w := w)) fun e w' ⟨s, he, hR, hB⟩ => ⟨s, he, of_n hR, hB⟩
theorem k_impl_ClippingsOf {w : World} {i0 : Int} {i1 : Int} {v2 : Value} {l2 : List S43} {v3 : Value} {l3 : List Int} {r : List Int} {q : Int} (h2 : (Sl.d v2 l2).is w) (h3 : (Sl.n v3 l3).is w) (hf : Evn (fun k => impl_ClippingsOf.f k i0 i1 l2 l3) (r, q)) : Calls Tryz.prog 14 #[.int .i64 i0, .int .i64 i1, v2, v3] w fun e w' => ∃ s, e = .returned (.tuple #[s, .int .i64 q]) ∧ (Sl.n s r).is w' ∧ Below w.heap.size w w' := by
  obtain ⟨A2, c2, rfl, hc2, hr2⟩ := h2
  obtain ⟨A3, c3, rfl, hc3, hr3⟩ := h3
  obtain ⟨k, hk⟩ := hf.ex
  exact Calls.mono (impl_ClippingsOf.calls (k := k) (hr2 := hr2) (hc2 := hc2) (hr3 := hr3) (hc3 := hc3) (h := hk) (w := w)) fun e w' ⟨s, he, hR, hB⟩ => ⟨s, he, of_n hR, hB⟩
theorem k_spec_ClippingsOf {w : World} {i0 : Int} {i1 : Int} {v2 : Value} {l2 : List S43} {v3 : Value} {l3 : List Int} {r : List Int} {q : Int} (h2 : (Sl.d v2 l2).is w) (h3 : (Sl.n v3 l3).is w) (hf : Evn (fun k => spec_ClippingsOf.f k i0 i1 l2 l3) (r, q)) : Calls Tryz.prog 15 #[.int .i64 i0, .int .i64 i1, v2, v3] w fun e w' => ∃ s, e = .returned (.tuple #[s, .int .i64 q]) ∧ (Sl.n s r).is w' ∧ Below w.heap.size w w' := by
  obtain ⟨A2, c2, rfl, hc2, hr2⟩ := h2
  obtain ⟨A3, c3, rfl, hc3, hr3⟩ := h3
  obtain ⟨k, hk⟩ := hf.ex
  exact Calls.mono (spec_ClippingsOf.calls (k := k) (hr2 := hr2) (hc2 := hc2) (hr3 := hr3) (hc3 := hc3) (h := hk) (w := w)) fun e w' ⟨s, he, hR, hB⟩ => ⟨s, he, of_n hR, hB⟩
theorem k_spec_SameWeather {w : World} {v0 : Value} {l0 : List S43} {v1 : Value} {l1 : List S43} {r : Bool} (h0 : (Sl.d v0 l0).is w) (h1 : (Sl.d v1 l1).is w) (hf : Evn (fun k => spec_SameWeather.f k l0 l1) r) : Calls Tryz.prog 16 #[v0, v1] w fun e w' => e = .returned (.bool r) ∧ Below w.heap.size w w' := by
  obtain ⟨A0, c0, rfl, hc0, hr0⟩ := h0
  obtain ⟨A1, c1, rfl, hc1, hr1⟩ := h1
  obtain ⟨k, hk⟩ := hf.ex
  exact Calls.mono (spec_SameWeather.calls (k := k) (hr0 := hr0) (hc0 := hc0) (hr1 := hr1) (hc1 := hc1) (h := hk) (w := w)) fun e w' ⟨he, hB⟩ => ⟨he, hB.below⟩
theorem k_impl_SameWeather {w : World} {v0 : Value} {l0 : List S43} {v1 : Value} {l1 : List S43} {r : Bool} (h0 : (Sl.d v0 l0).is w) (h1 : (Sl.d v1 l1).is w) (hf : Evn (fun k => impl_SameWeather.f k l0 l1) r) : Calls Tryz.prog 17 #[v0, v1] w fun e w' => e = .returned (.bool r) ∧ Below w.heap.size w w' := by
  obtain ⟨A0, c0, rfl, hc0, hr0⟩ := h0
  obtain ⟨A1, c1, rfl, hc1, hr1⟩ := h1
  obtain ⟨k, hk⟩ := hf.ex
  exact Calls.mono (impl_SameWeather.calls (k := k) (hr0 := hr0) (hc0 := hc0) (hr1 := hr1) (hc1 := hc1) (h := hk) (w := w)) fun e w' ⟨he, hB⟩ => ⟨he, hB.below⟩
theorem k_impl_ValidWeather {w : World} {v0 : Value} {l0 : List S43} {r : Bool} (h0 : (Sl.d v0 l0).is w) (hf : Evn (fun k => impl_ValidWeather.f k l0) r) : Calls Tryz.prog 18 #[v0] w fun e w' => e = .returned (.bool r) ∧ Below w.heap.size w w' := by
  obtain ⟨A0, c0, rfl, hc0, hr0⟩ := h0
  obtain ⟨k, hk⟩ := hf.ex
  exact Calls.mono (impl_ValidWeather.calls (k := k) (hr0 := hr0) (hc0 := hc0) (h := hk) (w := w)) fun e w' ⟨he, hB⟩ => ⟨he, hB⟩
theorem k_spec_SameNumbers {w : World} {v0 : Value} {l0 : List Int} {v1 : Value} {l1 : List Int} {r : Bool} (h0 : (Sl.n v0 l0).is w) (h1 : (Sl.n v1 l1).is w) (hf : Evn (fun k => spec_SameNumbers.f k l0 l1) r) : Calls Tryz.prog 19 #[v0, v1] w fun e w' => e = .returned (.bool r) ∧ Below w.heap.size w w' := by
  obtain ⟨A0, c0, rfl, hc0, hr0⟩ := h0
  obtain ⟨A1, c1, rfl, hc1, hr1⟩ := h1
  obtain ⟨k, hk⟩ := hf.ex
  exact Calls.mono (spec_SameNumbers.calls (k := k) (hr0 := hr0) (hc0 := hc0) (hr1 := hr1) (hc1 := hc1) (h := hk) (w := w)) fun e w' ⟨he, hB⟩ => ⟨he, hB.below⟩
theorem k_spec_SumOf {w : World} {v0 : Value} {l0 : List Int} {r : Int} (h0 : (Sl.n v0 l0).is w) (hf : Evn (fun k => spec_SumOf.f k l0) r) : Calls Tryz.prog 20 #[v0] w fun e w' => e = .returned (.int .i64 r) ∧ Below w.heap.size w w' := by
  obtain ⟨A0, c0, rfl, hc0, hr0⟩ := h0
  obtain ⟨k, hk⟩ := hf.ex
  exact Calls.mono (spec_SumOf.calls (k := k) (hr0 := hr0) (hc0 := hc0) (h := hk) (w := w)) fun e w' ⟨he, hB⟩ => ⟨he, hB.below⟩
theorem k_impl_GrowthOf {w : World} {g0 g1 : Int} {r q : Int}  (hf : impl_GrowthOf.f g0 g1 = some (r, q)) : Calls Tryz.prog 21 #[.agg #[.int .i8 g0, .int .i8 g1]] w fun e w' => e = .returned (.tuple #[.int .i64 r, .int .i64 q]) ∧ Below w.heap.size w w' := by
  exact Calls.mono (impl_GrowthOf.calls (h := hf) (w := w)) fun e w' ⟨he, hB⟩ => ⟨he, hB⟩
theorem k_spec_HasNumber {w : World} {v0 : Value} {l0 : List Int} {i1 : Int} {r : Bool} (h0 : (Sl.n v0 l0).is w) (hf : Evn (fun k => spec_HasNumber.f k l0 i1) r) : Calls Tryz.prog 22 #[v0, .int .i64 i1] w fun e w' => e = .returned (.bool r) ∧ Below w.heap.size w w' := by
  obtain ⟨A0, c0, rfl, hc0, hr0⟩ := h0
  obtain ⟨k, hk⟩ := hf.ex
  exact Calls.mono (spec_HasNumber.calls (k := k) (hr0 := hr0) (hc0 := hc0) (h := hk) (w := w)) fun e w' ⟨he, hB⟩ => ⟨he, hB.below⟩
theorem k_impl_BoxesFor {w : World} {v0 : Value} {l0 : List Int} {i1 : Int} {i2 : Int} {r : List Int} {q : Int} (h0 : (Sl.n v0 l0).is w) (hf : Evn (fun k => impl_BoxesFor.f k l0 i1 i2) (r, q)) : Calls Tryz.prog 23 #[v0, .int .i64 i1, .int .i64 i2] w fun e w' => ∃ s, e = .returned (.tuple #[s, .int .i64 q]) ∧ (Sl.n s r).is w' ∧ Below w.heap.size w w' := by
  obtain ⟨A0, c0, rfl, hc0, hr0⟩ := h0
  obtain ⟨k, hk⟩ := hf.ex
  exact Calls.mono (impl_BoxesFor.calls (k := k) (hr0 := hr0) (hc0 := hc0) (h := hk) (w := w)) fun e w' ⟨s, he, hR, hB⟩ => ⟨s, he, of_n hR, hB⟩
theorem k_spec_BoxesFor {w : World} {v0 : Value} {l0 : List Int} {i1 : Int} {i2 : Int} {r : List Int} {q : Int} (h0 : (Sl.n v0 l0).is w) (hf : Evn (fun k => spec_BoxesFor.f k l0 i1 i2) (r, q)) : Calls Tryz.prog 24 #[v0, .int .i64 i1, .int .i64 i2] w fun e w' => ∃ s, e = .returned (.tuple #[s, .int .i64 q]) ∧ (Sl.n s r).is w' ∧ Below w.heap.size w w' := by
  obtain ⟨A0, c0, rfl, hc0, hr0⟩ := h0
  obtain ⟨k, hk⟩ := hf.ex
  exact Calls.mono (spec_BoxesFor.calls (k := k) (hr0 := hr0) (hc0 := hc0) (h := hk) (w := w)) fun e w' ⟨s, he, hR, hB⟩ => ⟨s, he, of_n hR, hB⟩
theorem k_impl_DriestSpell {w : World} {v0 : Value} {l0 : List S43} {r q s : Int} (h0 : (Sl.d v0 l0).is w) (hf : Evn (fun k => impl_DriestSpell.f k l0) (r, q, s)) : Calls Tryz.prog 25 #[v0] w fun e w' => e = .returned (.tuple #[.int .i64 r, .int .i64 q, .int .i64 s]) ∧ Below w.heap.size w w' := by
  obtain ⟨A0, c0, rfl, hc0, hr0⟩ := h0
  obtain ⟨k, hk⟩ := hf.ex
  exact Calls.mono (impl_DriestSpell.calls (k := k) (hr0 := hr0) (hc0 := hc0) (h := hk) (w := w)) fun e w' ⟨he, hB⟩ => ⟨he, hB⟩
theorem k_spec_DriestSpell {w : World} {v0 : Value} {l0 : List S43} {r q s : Int} (h0 : (Sl.d v0 l0).is w) (hf : Evn (fun k => spec_DriestSpell.f k l0) (r, q, s)) : Calls Tryz.prog 26 #[v0] w fun e w' => e = .returned (.tuple #[.int .i64 r, .int .i64 q, .int .i64 s]) ∧ Below w.heap.size w w' := by
  obtain ⟨A0, c0, rfl, hc0, hr0⟩ := h0
  obtain ⟨k, hk⟩ := hf.ex
  exact Calls.mono (spec_DriestSpell.calls (k := k) (hr0 := hr0) (hc0 := hc0) (h := hk) (w := w)) fun e w' ⟨he, hB⟩ => ⟨he, hB⟩
theorem k_impl_WettestDays {w : World} {v0 : Value} {l0 : List S43} {i1 : Int} {r q s : Int} (h0 : (Sl.d v0 l0).is w) (hf : Evn (fun k => impl_WettestDays.f k l0 i1) (r, q, s)) : Calls Tryz.prog 27 #[v0, .int .i64 i1] w fun e w' => e = .returned (.tuple #[.int .i64 r, .int .i64 q, .int .i64 s]) ∧ Below w.heap.size w w' := by
  obtain ⟨A0, c0, rfl, hc0, hr0⟩ := h0
  obtain ⟨k, hk⟩ := hf.ex
  exact Calls.mono (impl_WettestDays.calls (k := k) (hr0 := hr0) (hc0 := hc0) (h := hk) (w := w)) fun e w' ⟨he, hB⟩ => ⟨he, hB⟩
theorem k_spec_WettestDays {w : World} {v0 : Value} {l0 : List S43} {i1 : Int} {r q s : Int} (h0 : (Sl.d v0 l0).is w) (hf : Evn (fun k => spec_WettestDays.f k l0 i1) (r, q, s)) : Calls Tryz.prog 28 #[v0, .int .i64 i1] w fun e w' => e = .returned (.tuple #[.int .i64 r, .int .i64 q, .int .i64 s]) ∧ Below w.heap.size w w' := by
  obtain ⟨A0, c0, rfl, hc0, hr0⟩ := h0
  obtain ⟨k, hk⟩ := hf.ex
  exact Calls.mono (spec_WettestDays.calls (k := k) (hr0 := hr0) (hc0 := hc0) (h := hk) (w := w)) fun e w' ⟨he, hB⟩ => ⟨he, hB⟩
theorem k_impl_SeedDays {w : World} {v0 : Value} {l0 : List S43} {i1 : Int} {i2 : Int} {i3 : Int} {r : List Int} {q : Int} (h0 : (Sl.d v0 l0).is w) (hf : Evn (fun k => impl_SeedDays.f k l0 i1 i2 i3) (r, q)) : Calls Tryz.prog 29 #[v0, .int .i64 i1, .int .i64 i2, .int .i64 i3] w fun e w' => ∃ s, e = .returned (.tuple #[s, .int .i64 q]) ∧ (Sl.n s r).is w' ∧ Below w.heap.size w w' := by
  obtain ⟨A0, c0, rfl, hc0, hr0⟩ := h0
  obtain ⟨k, hk⟩ := hf.ex
  exact Calls.mono (impl_SeedDays.calls (k := k) (hr0 := hr0) (hc0 := hc0) (h := hk) (w := w)) fun e w' ⟨s, he, hR, hB⟩ => ⟨s, he, of_n hR, hB⟩
theorem k_spec_SeedDays {w : World} {v0 : Value} {l0 : List S43} {i1 : Int} {i2 : Int} {i3 : Int} {r : List Int} {q : Int} (h0 : (Sl.d v0 l0).is w) (hf : Evn (fun k => spec_SeedDays.f k l0 i1 i2 i3) (r, q)) : Calls Tryz.prog 30 #[v0, .int .i64 i1, .int .i64 i2, .int .i64 i3] w fun e w' => ∃ s, e = .returned (.tuple #[s, .int .i64 q]) ∧ (Sl.n s r).is w' ∧ Below w.heap.size w w' := by
  obtain ⟨A0, c0, rfl, hc0, hr0⟩ := h0
  obtain ⟨k, hk⟩ := hf.ex
  exact Calls.mono (spec_SeedDays.calls (k := k) (hr0 := hr0) (hc0 := hc0) (h := hk) (w := w)) fun e w' ⟨s, he, hR, hB⟩ => ⟨s, he, of_n hR, hB⟩
theorem k_impl_SwapDays {w : World} {v0 : Value} {l0 : List S43} {i1 : Int} {i2 : Int} {r : List S43} {q : Int} (h0 : (Sl.d v0 l0).is w) (hf : Evn (fun k => impl_SwapDays.f k l0 i1 i2) (r, q)) : Calls Tryz.prog 31 #[v0, .int .i64 i1, .int .i64 i2] w fun e w' => ∃ s, e = .returned (.tuple #[s, .int .i64 q]) ∧ (Sl.d s r).is w' ∧ Below w.heap.size w w' := by
  obtain ⟨A0, c0, rfl, hc0, hr0⟩ := h0
  obtain ⟨k, hk⟩ := hf.ex
  exact Calls.mono (impl_SwapDays.calls (k := k) (hr0 := hr0) (hc0 := hc0) (h := hk) (w := w)) fun e w' ⟨s, he, hR, hB⟩ => ⟨s, he, of_d hR, hB⟩
theorem k_spec_SwapDays {w : World} {v0 : Value} {l0 : List S43} {i1 : Int} {i2 : Int} {r : List S43} {q : Int} (h0 : (Sl.d v0 l0).is w) (hf : Evn (fun k => spec_SwapDays.f k l0 i1 i2) (r, q)) : Calls Tryz.prog 32 #[v0, .int .i64 i1, .int .i64 i2] w fun e w' => ∃ s, e = .returned (.tuple #[s, .int .i64 q]) ∧ (Sl.d s r).is w' ∧ Below w.heap.size w w' := by
  obtain ⟨A0, c0, rfl, hc0, hr0⟩ := h0
  obtain ⟨k, hk⟩ := hf.ex
  exact Calls.mono (spec_SwapDays.calls (k := k) (hr0 := hr0) (hc0 := hc0) (h := hk) (w := w)) fun e w' ⟨s, he, hR, hB⟩ => ⟨s, he, of_d hR, hB⟩
/-! ### What operations yield, by the list -/
section
variable {n : Nat} {a : Act} {m : List (Nat × Value)} {W : World} {o : Oper} {x y z : Operand} {t u : TypeId} {v : Value} {k : IntKind} {i j r : Int}
/-- The address of a slice's place. -/
def ptr : Value → Nat → Value
  | .slice (some ad) _ _, i => .pointer (some (ad.add i))
  | _, _ => undef
/-- The place behind it. -/
def ptr1 : Value → Nat → Value
  | .slice (some ad) _ _, i => .pointer (some ⟨(ad.add i).block, (ad.add i).off + 1, none⟩)
  | _, _ => undef
theorem v_move (hF : Fr n a m) (ho : o.op = .move x) (hx : val m x = some v) : (execOp a.eval o).run Tryz.prog W = .ok (.value v) W := by rw [run_move ho, hF.val hx]
theorem v_assign (hF : Fr n a m) (ho : o.op = .assign x) (hx : val m x = some v) : (execOp a.eval o).run Tryz.prog W = .ok (.value v) W := by rw [run_assign ho, hF.val hx]
theorem v_extract {q : Nat} {vs : Array Value} (hF : Fr n a m) (ho : o.op = .extract x q) (hx : val m x = some (.tuple vs)) (hv : vs[q]? = some v) : (execOp a.eval o).run Tryz.prog W = .ok (.value v) W := run_extract ho (hF.val hx) hv
theorem v_pick {b : Bool} (hF : Fr n a m) (ho : o.op = .pick x y z) (hx : val m x = some (.bool b)) (hv : val m (bif b then y else z) = some v) : (execOp a.eval o).run Tryz.prog W = .ok (.value v) W := by
  rw [run_pick ho (hF.val hx)]
  cases b with
  | true => rw [if_pos rfl, hF.val (x := y) hv]
  | false => rw [if_neg (by decide), hF.val (x := z) hv]
theorem v_not {b c : Bool} (hF : Fr n a m) (ho : o.op = .unOp .not t x) (hx : val m x = some (.bool b)) (hc : (!b) = c) : (execOp a.eval o).run Tryz.prog W = .ok (.value (.bool c)) W := by rw [run_not ho (hF.val hx), hc]
theorem v_neqB {b c p : Bool} (hF : Fr n a m) (ho : o.op = .binOp .neq 4 x y u) (hx : val m x = some (.bool b)) (hy : val m y = some (.bool c)) (hp : (b != c) = p) : (execOp a.eval o).run Tryz.prog W = .ok (.value (.bool p)) W := by rw [run_neqB ho (hF.val hx) (hF.val hy), hp]
theorem v_neq {b : Bool} (hF : Fr n a m) (ho : o.op = .binOp .neq t x y u) (hx : val m x = some (.int k i)) (hy : val m y = some (.int k j)) (hb : decide (i ≠ j) = b) : (execOp a.eval o).run Tryz.prog W = .ok (.value (.bool b)) W := by
  rw [run_neq ho (hF.val hx) (hF.val hy), ← hb]
  congr 3
  by_cases h : i = j <;> simp [h]
theorem v_eql {b : Bool} (hF : Fr n a m) (ho : o.op = .binOp .eql t x y u) (hx : val m x = some (.int k i)) (hy : val m y = some (.int k j)) (hb : decide (i = j) = b) : (execOp a.eval o).run Tryz.prog W = .ok (.value (.bool b)) W := by
  rw [run_eql ho (hF.val hx) (hF.val hy), ← hb]
  congr 3
theorem v_lss {b : Bool} (hF : Fr n a m) (ho : o.op = .binOp .lss t x y u) (hx : val m x = some (.int k i)) (hy : val m y = some (.int k j)) (hb : decide (i < j) = b) : (execOp a.eval o).run Tryz.prog W = .ok (.value (.bool b)) W := by
  rw [run_lss ho (hF.val hx) (hF.val hy), ← hb]
theorem v_leq {b : Bool} (hF : Fr n a m) (ho : o.op = .binOp .leq t x y u) (hx : val m x = some (.int k i)) (hy : val m y = some (.int k j)) (hb : decide (i ≤ j) = b) : (execOp a.eval o).run Tryz.prog W = .ok (.value (.bool b)) W := by
  rw [run_leq ho (hF.val hx) (hF.val hy), ← hb]
theorem v_gtr {b : Bool} (hF : Fr n a m) (ho : o.op = .binOp .gtr t x y u) (hx : val m x = some (.int k i)) (hy : val m y = some (.int k j)) (hb : decide (j < i) = b) : (execOp a.eval o).run Tryz.prog W = .ok (.value (.bool b)) W := by
  rw [run_gtr ho (hF.val hx) (hF.val hy), ← hb]
theorem v_geq {b : Bool} (hF : Fr n a m) (ho : o.op = .binOp .geq t x y u) (hx : val m x = some (.int k i)) (hy : val m y = some (.int k j)) (hb : decide (j ≤ i) = b) : (execOp a.eval o).run Tryz.prog W = .ok (.value (.bool b)) W := by
  rw [run_geq ho (hF.val hx) (hF.val hy), ← hb]
theorem v_add (hF : Fr n a m) (ho : o.op = .binOp .add t x y u) (hx : val m x = some (.int .i64 i)) (hy : val m y = some (.int .i64 j)) (hr : wrap64 (i + j) = r) : (execOp a.eval o).run Tryz.prog W = .ok (.value (.int .i64 r)) W := by rw [run_add ho (hF.val hx) (hF.val hy), hr]
theorem v_sub (hF : Fr n a m) (ho : o.op = .binOp .sub t x y u) (hx : val m x = some (.int .i64 i)) (hy : val m y = some (.int .i64 j)) (hr : wrap64 (i - j) = r) : (execOp a.eval o).run Tryz.prog W = .ok (.value (.int .i64 r)) W := by rw [run_sub ho (hF.val hx) (hF.val hy), hr]
theorem v_mul (hF : Fr n a m) (ho : o.op = .binOp .mul t x y u) (hx : val m x = some (.int .i64 i)) (hy : val m y = some (.int .i64 j)) (hr : wrap64 (i * j) = r) : (execOp a.eval o).run Tryz.prog W = .ok (.value (.int .i64 r)) W := by rw [run_mul ho (hF.val hx) (hF.val hy), hr]
theorem v_quo (hF : Fr n a m) (ho : o.op = .binOp .quo t x y u) (hx : val m x = some (.int .i64 i)) (hy : val m y = some (.int .i64 j)) (h0 : j ≠ 0) (hr : wrap64 (i.tdiv j) = r) : (execOp a.eval o).run Tryz.prog W = .ok (.value (.int .i64 r)) W := by rw [run_quo ho (hF.val hx) (hF.val hy) h0, hr]
theorem v_conv (hF : Fr n a m) (ho : o.op = .convert 41 2 x) (hx : val m x = some (.int .i8 i)) (hr : wrap64 i = r) : (execOp a.eval o).run Tryz.prog W = .ok (.value (.int .i64 r)) W := by rw [run_conv ho (hF.val hx), hr]
theorem v_len24 {l : List S43} (hF : Fr n a m) (ho : o.op = .call { callee := .builtin .len, args := #[x], argTypes := #[24] }) (hx : val m x = some v) (hs : (Sl.d v l).is W) : (execOp a.eval o).run Tryz.prog W = .ok (.value (.int .i64 (l.length : Int))) W := by
  obtain ⟨A, c, rfl, -, -⟩ := hs
  exact run_len24 (xs := #[]) ho (hF.val hx)
theorem v_len26 {l : List Int} (hF : Fr n a m) (ho : o.op = .call { callee := .builtin .len, args := #[x], argTypes := #[26] }) (hx : val m x = some v) (hs : (Sl.n v l).is W) : (execOp a.eval o).run Tryz.prog W = .ok (.value (.int .i64 (l.length : Int))) W := by
  obtain ⟨A, c, rfl, -, -⟩ := hs
  exact run_len26 (xs := #[]) ho (hF.val hx)
theorem v_index24 {l : List S43} (hF : Fr n a m) (ho : o.op = .indexAddr 24 x y) (hx : val m x = some v) (hy : val m y = some (.int .i64 i)) (hs : (Sl.d v l).is W) (h0 : 0 ≤ i) (h1 : i < (l.length : Int)) : (execOp a.eval o).run Tryz.prog W = .ok (.value (ptr v (i.toNat * 2))) W := by
  obtain ⟨A, c, rfl, hc, hk⟩ := hs
  obtain ⟨ad, rfl, -, -⟩ := at_T43 hk i h0 h1
  exact run_index24 ho (hF.val hx) (hF.val hy) h0 h1
theorem v_index26 {l : List Int} (hF : Fr n a m) (ho : o.op = .indexAddr 26 x y) (hx : val m x = some v) (hy : val m y = some (.int .i64 i)) (hs : (Sl.n v l).is W) (h0 : 0 ≤ i) (h1 : i < (l.length : Int)) : (execOp a.eval o).run Tryz.prog W = .ok (.value (ptr v i.toNat)) W := by
  obtain ⟨A, c, rfl, hc, hk⟩ := hs
  obtain ⟨ad, rfl, -⟩ := Kd.at_int hk i h0 h1
  exact run_index26 ho (hF.val hx) (hF.val hy) h0 h1
theorem v_load2 {l : List Int} (hF : Fr n a m) (ho : o.op = .load 2 x) (hx : val m x = some (ptr v i.toNat)) (hs : (Sl.n v l).is W) (h0 : 0 ≤ i) (h1 : i < (l.length : Int)) : (execOp a.eval o).run Tryz.prog W = .ok (.value (.int .i64 (rd l i))) W := by
  obtain ⟨A, c, rfl, hc, hk⟩ := hs
  obtain ⟨ad, rfl, hcell⟩ := Kd.at_int hk i h0 h1
  exact run_load2 ho (hF.val hx) hcell
theorem v_field0 {l : List S43} {q : Nat} (hF : Fr n a m) (ho : o.op = .fieldAddr 43 x 0) (hx : val m x = some (ptr v q)) (hs : (Sl.d v l).is W) (h1 : 0 < l.length) : (execOp a.eval o).run Tryz.prog W = .ok (.value (ptr v q)) W := by
  obtain ⟨A, c, rfl, hc, hk⟩ := hs
  obtain ⟨ad, rfl, -, -⟩ := at_T43 hk 0 (Int.le_refl _) (by omega)
  exact run_field0 ho (hF.val hx)
theorem v_field1 {l : List S43} {q : Nat} (hF : Fr n a m) (ho : o.op = .fieldAddr 43 x 1) (hx : val m x = some (ptr v q)) (hs : (Sl.d v l).is W) (h1 : 0 < l.length) : (execOp a.eval o).run Tryz.prog W = .ok (.value (ptr1 v q)) W := by
  obtain ⟨A, c, rfl, hc, hk⟩ := hs
  obtain ⟨ad, rfl, -, -⟩ := at_T43 hk 0 (Int.le_refl _) (by omega)
  exact run_field1 ho (hF.val hx)
theorem v_load41a {l : List S43} (hF : Fr n a m) (ho : o.op = .load 41 x) (hx : val m x = some (ptr v (i.toNat * 2))) (hs : (Sl.d v l).is W) (h0 : 0 ≤ i) (h1 : i < (l.length : Int)) : (execOp a.eval o).run Tryz.prog W = .ok (.value (.int .i8 (rd_T43 l i).f0)) W := by
  obtain ⟨A, c, rfl, hc, hk⟩ := hs
  obtain ⟨ad, rfl, hcell, -⟩ := at_T43 hk i h0 h1
  exact run_load41 ho (hF.val hx) hcell
theorem v_load41b {l : List S43} (hF : Fr n a m) (ho : o.op = .load 41 x) (hx : val m x = some (ptr1 v (i.toNat * 2))) (hs : (Sl.d v l).is W) (h0 : 0 ≤ i) (h1 : i < (l.length : Int)) : (execOp a.eval o).run Tryz.prog W = .ok (.value (.int .i8 (rd_T43 l i).f1)) W := by
  obtain ⟨A, c, rfl, hc, hk⟩ := hs
  obtain ⟨ad, rfl, -, hcell⟩ := at_T43 hk i h0 h1
  exact run_load41 ho (hF.val hx) hcell
theorem v_load43 {l : List S43} (hF : Fr n a m) (ho : o.op = .load 43 x) (hx : val m x = some (ptr v (i.toNat * 2))) (hs : (Sl.d v l).is W) (h0 : 0 ≤ i) (h1 : i < (l.length : Int)) : (execOp a.eval o).run Tryz.prog W = .ok (.value (.agg #[.int .i8 (rd_T43 l i).f0, .int .i8 (rd_T43 l i).f1])) W := by
  obtain ⟨A, c, rfl, hc, hk⟩ := hs
  obtain ⟨ad, rfl, hcell, hcell1⟩ := at_T43 hk i h0 h1
  exact run_load43 ho (hF.val hx) hcell hcell1
end
end Go.Proofs.YtibpndhcijmhpaaGreatDoor.B
