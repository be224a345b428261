/- What the law answers: true, and nothing of the caller is touched. -/
import Derived.Test.YtibpndhcijmhpaaGreatDoorRg1
import Derived.Test.YtibpndhcijmhpaaGreatDoorRg2
import Derived.Test.YtibpndhcijmhpaaGreatDoorRg5
import Derived.Test.YtibpndhcijmhpaaGreatDoorRg7
import Derived.Test.YtibpndhcijmhpaaGreatDoorLoops
namespace Go.Proofs.YtibpndhcijmhpaaGreatDoor.B
open Go.RowKit Go.Proofs.YtibpndhcijmhpaaGreatDoorW.PrintLast Go.Proofs.YtibpndhcijmhpaaGreatDoorW.PrintWords Go.Proofs.YtibpndhcijmhpaaGreatDoor.QG
set_option linter.unusedSimpArgs false
set_option linter.unusedVariables false
set_option maxRecDepth 100000
def dropC : Nat → Code → Code
  | 0, c => c
  | n + 1, .seq _ b => dropC n b
  | _ + 1, c => c
/-- The body from its part of that number on. -/
def codeFrom (f : Func) (n : Nat) : Code := dropC n (f.body.getD .skip)
theorem Fr.start (v0 v1 : Value) (k : Nat) : Fr (2 + k) { tmps := #[v0, v1] ++ Array.replicate k undef, defers := [] } [(0, v0), (1, v1)] := by
  refine ⟨by simp, rfl, fun i v h => ?_⟩
  unfold look at h
  cases e : Nat.beq 0 i with
  | true =>
    rw [e] at h
    obtain rfl : 0 = i := Nat.eq_of_beq_eq_true e
    obtain rfl : v0 = v := Option.some.inj h
    simp [Act.eval, Array.getD]
  | false =>
    rw [e] at h
    replace h : look [(1, v1)] i = some v := h
    unfold look at h
    cases e2 : Nat.beq 1 i with
    | true =>
      rw [e2] at h
      obtain rfl : 1 = i := Nat.eq_of_beq_eq_true e2
      obtain rfl : v1 = v := Option.some.inj h
      simp [Act.eval, Array.getD]
      intro h
      omega
    | false =>
      rw [e2] at h
      replace h : look [] i = some v := h
      cases h
section
variable {Q : Exit → Act → World → Prop} {w0 w : World} {a : Act}

/-- Days exchanged back. -/
theorem part34 {v0 v1 v5 : Value} {code more : List Int} {xs : List S43} (hF : Fr 639 a [(0, v0), (1, v1), (5, v5)]) (hS : St w0 w [.b v0 code, .b v1 more, .d v5 xs]) (hcb : BytesIn code) (hmb : BytesIn more) (lc : code.length ≤ 4096) (lm : more.length ≤ 4096) (hl : xs.length ≤ 8) (hx : ∀ x ∈ xs, DayIn x) (h0 : ¬ xs.length = 0)
    (hret : ∀ a w, Fr 639 a [(4, .bool true)] → Below w0.heap.size w0 w → Q .ret a w) : (codeFrom Tryz.f3 34).wp Tryz.prog Q a w := by
  conv => arg 2; whnf
  obtain ⟨m, e4, m0, m1⟩ := P6Pick_is more hmb lm (xs.length : Int) (by omega)
  obtain ⟨u, e5, u0, u1⟩ := P6Pick_is code hcb lc (xs.length : Int) (by omega)
  obtain ⟨m, rfl⟩ := Int.eq_ofNat_of_zero_le m0
  obtain ⟨u, rfl⟩ := Int.eq_ofNat_of_zero_le u0
  have hm : m < xs.length := by omega
  have hu : u < xs.length := by omega
  have hy := swap_mem xs m u hm hu hx
  have t1 := iSwap xs hl hx m u hm hu
  have t2 := sSwap xs hl hx m u hm hu
  have t3 := iSwap (swapM xs m u) (by rw [swap_len]; exact hl) hy u m (by rw [swap_len]; exact hu) (by rw [swap_len]; exact hm)
  rw [swap_back xs m u hm hu] at t3
  have hyl : (swapM xs m u).length ≤ 8 := by rw [swap_len]; exact hl
  refine wp_seq_k fun K33 hK33 => rg75 hF hS e4 fun a w hF hS => hK33 _ _ ?_
  refine wp_seq_k fun K34 hK34 => rg76 hF hS e5 fun a w hF hS => hK34 _ _ ?_
  refine wp_seq_k fun K35 hK35 => rg77 hF hS t1 fun a w v57 hF hS => hK35 _ _ ?_
  refine wp_seq_k fun K36 hK36 => rg78 hF hS t2 fun a w v59 hF hS => hK36 _ _ ?_
  refine wp_seq_k fun K37 hK37 => rg79 hF hS t3 fun a w v61 hF hS => hK37 _ _ ?_
  exact wp_seq_k fun K38 hK38 => rg80 hF hS hl hyl fun a w hF hS => hK38 _ _ (wp_ret (hret a w hF hS.2.1))
/-- The days gone through, and the rest. -/
theorem part31 {v0 v1 v5 v48 : Value} {code more ss : List Int} {xs : List S43} {b q c dd : Nat} {a_ s_ : Int} (hF : Fr 639 a [(0, v0), (1, v1), (5, v5), (35, .int .i64 ((c : Int))), (36, .int .i64 ((b : Int))), (37, .int .i64 ((q : Int))), (39, .int .i64 ((dd : Int))), (43, .int .i64 (a_)), (44, .int .i64 (s_)), (48, v48)]) (hS : St w0 w [.b v0 code, .b v1 more, .d v5 xs, .n v48 ss]) (hcb : BytesIn code) (hmb : BytesIn more) (lc : code.length ≤ 4096) (lm : more.length ≤ 4096) (hl : xs.length ≤ 8) (hx : ∀ x ∈ xs, DayIn x) (K : Known xs b q dd a_ s_ ss) (h6 : xs.length = 0 → c = 6)
    (hret : ∀ a w, Fr 639 a [(4, .bool true)] → Below w0.heap.size w0 w → Q .ret a w) : (codeFrom Tryz.f3 31).wp Tryz.prog Q a w := by
  conv => arg 2; whnf
  refine wp_seq_k fun K28 hK28 => rg52 hF hS fun a w hF hS => hK28 _ _ ?_
  refine wp_seq_k fun K29 hK29 => wp_seq_k fun K30 hK30 => rg53 hF hS fun a w hF hS => hK30 _ _ ?_
  refine loop6 hF hS hl hx K fun a w hF hS => hK29 _ _ ?_
  replace hS := hS.pick (D' := [.b v0 code, .b v1 more, .d v5 xs]) [0, 1, 2] rfl
  refine wp_seq_k fun K31 hK31 => wp_seq_k fun K32 hK32 => ?_
  by_cases h0 : xs.length = 0
  · refine rg73a hF.to hS h0 fun a w hF hS => hK32 _ _ (wp_cond_true (hF.at rfl) ?_)
    exact wp_seq_k fun K33 hK33 => rg74 hF.to (hS.pick [0] rfl) (h6 h0) fun a w hF hS => hK33 _ _ (wp_ret (hret a w hF hS.2.1))
  · refine rg73b (c := c) hF.to hS h0 fun a w hF hS => hK32 _ _ (wp_cond_false (hF.at rfl) (wp_skip (hK31 _ _ ?_)))
    exact part34 hF.to hS hcb hmb lc lm hl hx h0 hret
/-- Spells, wettest days, seeds, and the rest. -/
theorem part23 {v0 v1 v5 : Value} {code more : List Int} {xs : List S43} (hF : Fr 639 a [(0, v0), (1, v1), (5, v5)]) (hS : St w0 w [.b v0 code, .b v1 more, .d v5 xs]) (hcb : BytesIn code) (hmb : BytesIn more) (lc : code.length ≤ 4096) (lm : more.length ≤ 4096) (hl : xs.length ≤ 8) (hx : ∀ x ∈ xs, DayIn x)
    (hret : ∀ a w, Fr 639 a [(4, .bool true)] → Below w0.heap.size w0 w → Q .ret a w) : (codeFrom Tryz.f3 23).wp Tryz.prog Q a w := by
  obtain ⟨p, e3, p0, p1⟩ := P6Pick_is more hmb lm 4 (by omega)
  obtain ⟨p, rfl⟩ := Int.eq_ofNat_of_zero_le p0
  obtain ⟨b, q, c, hsp, hi2, hc, h6, hq, hb⟩ := driest_is xs (by omega) hx
  have wd : wrap64 (1 + (p : Int)) = ((1 + p : Nat) : Int) := by rw [wrap64_in (by omega) (by omega)]; omega
  have hw1 := iWet xs hl hx (1 + p) (by omega) (by omega)
  have hw2 := sWet xs hl hx (1 + p) (by omega) (by omega)
  have hs1 := iSeed xs hl hx (1 + p) (by omega) (by omega)
  have hs2 := sSeed xs hl hx (1 + p) (by omega) (by omega)
  have hslen := seed_len xs (1 + p) (xs.length + 1 - (1 + p))
  have K : Known xs b q (1 + p) (wetA xs (1 + p)).1 (wetA xs (1 + p)).2.1 (seedM xs (1 + p) (xs.length + 1 - (1 + p))) := by
    refine ⟨⟨by omega, by omega⟩, hq, hb, fun i hi => ?_, fun i => ?_, by omega⟩
    · have hp := wet_prop xs hx (1 + p) (xs.length + 1 - (1 + p)) (by omega)
      unfold wetA
      rw [if_pos (by omega)]
      exact hp.2.2.2.1 i (by omega)
    · have := seed_mem xs (1 + p) i (xs.length + 1 - (1 + p))
      by_cases c1 : i + (1 + p) ≤ xs.length
      · rw [decide_eq_true c1, Bool.true_and]
        cases e : noneB xs 5 10 i (1 + p) with
        | true => exact decide_eq_true (this.2 ⟨by omega, e⟩)
        | false => exact decide_eq_false fun h => by rw [(this.1 h).2] at e; cases e
      · rw [decide_eq_false c1, Bool.false_and]
        exact decide_eq_false fun h => by have := (this.1 h).1; omega
  have hkn : decide ((wetA xs (1 + p)).2.2 = 0) = decide (((1 + p : Nat) : Int) ≤ (xs.length : Int)) := by
    unfold wetA
    by_cases c1 : 1 + p ≤ xs.length
    · rw [if_pos c1, decide_eq_true (by omega : ((1 + p : Nat) : Int) ≤ (xs.length : Int))]; rfl
    · rw [if_neg c1, decide_eq_false (by omega : ¬ ((1 + p : Nat) : Int) ≤ (xs.length : Int))]; rfl
  generalize 1 + p = dd at *
  generalize wetA xs dd = wt at *
  obtain ⟨a_, s_, kn⟩ := wt
  generalize seedM xs dd (xs.length + 1 - dd) = ss at *
  conv => arg 2; whnf
  refine wp_seq_k fun K19 hK19 => rg43 hF hS hi2 fun a w hF hS => hK19 _ _ ?_
  refine wp_seq_k fun K20 hK20 => rg44 hF hS hsp fun a w hF hS => hK20 _ _ ?_
  refine wp_seq_k fun K21 hK21 => rg45 hF hS e3 wd fun a w hF hS => hK21 _ _ ?_
  refine wp_seq_k fun K22 hK22 => rg46 hF hS hw1 fun a w hF hS => hK22 _ _ ?_
  refine wp_seq_k fun K23 hK23 => rg47 hF hS hw2 fun a w hF hS => hK23 _ _ ?_
  refine wp_seq_k fun K24 hK24 => rg48 hF hS hs1 fun a w v46 hF hS => hK24 _ _ ?_
  refine wp_seq_k fun K25 hK25 => rg49 hF hS hs2 fun a w v48 hF hS => hK25 _ _ ?_
  refine wp_seq_k fun K26 hK26 => wp_seq_k fun K27 hK27 => ?_
  have rest : ∀ a w, Fr 639 a [(0, v0), (1, v1), (5, v5), (35, .int .i64 ((c : Int))), (36, .int .i64 ((b : Int))), (37, .int .i64 ((q : Int))), (39, .int .i64 ((dd : Int))), (43, .int .i64 (a_)), (44, .int .i64 (s_)), (48, v48), (467, .bool false)] → St w0 w [.b v0 code, .b v1 more, .d v5 xs, .n v48 ss] → K27 a w := fun a w hF hS =>
    hK27 _ _ (wp_cond_false (hF.at rfl) (wp_skip (hK26 _ _ (part31 hF.to hS hcb hmb lc lm hl hx K h6 hret))))
  rcases hc with rfl | rfl
  · exact rg50a hF hS K.hn hkn rfl fun a w hF hS => rest a w hF.to hS
  · exact rg50b hF hS K.hn hkn rfl fun a w hF hS => rest a w hF.to hS
/-- Clips and boxes, and the rest. -/
theorem part18 {v0 v1 v5 v21 : Value} {code more cs : List Int} {xs : List S43} (hF : Fr 639 a [(0, v0), (1, v1), (5, v5), (21, v21)]) (hS : St w0 w [.b v0 code, .b v1 more, .d v5 xs, .n v21 cs]) (hcb : BytesIn code) (hmb : BytesIn more) (lc : code.length ≤ 4096) (lm : more.length ≤ 4096) (hl : xs.length ≤ 8) (hx : ∀ x ∈ xs, DayIn x) (hcl : cs.length ≤ 30) (hcs : ∀ c ∈ cs, 0 ≤ c ∧ c ≤ 200)
    (hret : ∀ a w, Fr 639 a [(4, .bool true)] → Below w0.heap.size w0 w → Q .ret a w) : (codeFrom Tryz.f3 18).wp Tryz.prog Q a w := by
  conv => arg 2; whnf
  refine wp_seq_k fun K11 hK11 => wp_seq_k fun K12 hK12 => rg29 hF hS fun a w hF hS => hK12 _ _ ?_
  refine loop2 hF hS (by omega) (fun i hi => (hcs _ (rdI_mem cs i hi)).1) fun a w hF hS => hK11 _ _ ?_
  refine wp_seq_k fun K13 hK13 => rg34 hF hS (iBoxes cs (by omega) hcs) fun a w v28 hF hS => hK13 _ _ ?_
  refine wp_seq_k fun K14 hK14 => rg35 hF hS (sBoxes cs (by omega) hcs) fun a w v30 hF hS => hK14 _ _ ?_
  refine wp_seq_k fun K15 hK15 => wp_seq_k fun K16 hK16 => ?_
  refine rg36 hF hS (by rw [List.length_map]) (by omega) fun a w hF hS => hK16 _ _ (wp_cond_false (hF.at rfl) (wp_skip (hK15 _ _ ?_)))
  refine wp_seq_k fun K17 hK17 => wp_seq_k fun K18 hK18 => rg38 hF.to hS fun a w hF hS => hK18 _ _ ?_
  refine loop4 hF hS (by omega) (by rw [List.length_map]) (fun i hi => ⟨hcs _ (rdI_mem cs i hi), ?_⟩) fun a w hF hS => hK17 _ _ ?_
  · unfold rd
    rw [Int.toNat_natCast, List.getD_eq_getElem?_getD, List.getD_eq_getElem?_getD, List.getElem?_map, List.getElem?_eq_getElem hi]
    rfl
  · exact part23 hF.to (hS.pick [0, 1, 2] rfl) hcb hmb lc lm hl hx hret
/-- Sums, the days' loop, and the rest. -/
theorem part14 {v0 v1 v5 v6 v13 v17 v21 : Value} {code more ps gs hs cs : List Int} {xs : List S43} {start cut : Int} (hF : Fr 639 a [(0, v0), (1, v1), (5, v5), (6, v6), (7, .int .i64 (start)), (8, .int .i64 (cut)), (13, v13), (17, v17), (21, v21)]) (hS : St w0 w [.b v0 code, .b v1 more, .d v5 xs, .n v6 ps, .n v13 gs, .n v17 hs, .n v21 cs]) (hcb : BytesIn code) (hmb : BytesIn more) (lc : code.length ≤ 4096) (lm : more.length ≤ 4096) (hl : xs.length ≤ 8) (hx : ∀ x ∈ xs, DayIn x) (hp2 : ps.length ≤ 100) (hgl : gs.length = xs.length) (hlen : hs.length = xs.length) (k0 : 0 ≤ cut) (c3 : cut ≤ 200)
    (hgr : ∀ i : Nat, i < xs.length → rd gs (i : Int) = gr (rd_T43 xs (i : Int))) (hlow : ∀ i : Nat, i < xs.length → (i : Int) ∈ ps → rd hs (i : Int) ≤ cut + gr (rd_T43 xs (i : Int)))
    (hS1 : Evn (fun k => spec_SumOf.f k cs) cs.sum) (hS2 : Evn (fun k => spec_SumOf.f k gs) gs.sum) (hsum : hs.getLastD start + cs.sum = start + gs.sum) (hcl : cs.length ≤ 30) (hcs : ∀ c ∈ cs, 0 ≤ c ∧ c ≤ 200)
    (hret : ∀ a w, Fr 639 a [(4, .bool true)] → Below w0.heap.size w0 w → Q .ret a w) : (codeFrom Tryz.f3 14).wp Tryz.prog Q a w := by
  conv => arg 2; whnf
  refine wp_seq_k fun K3 hK3 => rg16 hF hS fun a w hF hS => hK3 _ _ ?_
  refine wp_seq_k fun K5 hK5 => wp_seq_k fun K6 hK6 => ?_
  have mid : ∀ a w, Fr 639 a [(0, v0), (1, v1), (5, v5), (6, v6), (7, .int .i64 (start)), (8, .int .i64 (cut)), (13, v13), (17, v17), (21, v21), (23, .int .i64 (hs.getLastD start))] → St w0 w [.b v0 code, .b v1 more, .d v5 xs, .n v6 ps, .n v13 gs, .n v17 hs, .n v21 cs] → K5 a w := fun a w hF hS => by
    refine hK5 _ _ (wp_seq_k fun K7 hK7 => wp_seq_k fun K8 hK8 => ?_)
    refine rg19 hF hS hS1 hS2 hsum fun a w hF hS => hK8 _ _ (wp_cond_false (hF.at rfl) (wp_skip (hK7 _ _ ?_)))
    refine wp_seq_k fun K9 hK9 => wp_seq_k fun K10 hK10 => rg21 hF.to hS fun a w hF hS => hK10 _ _ ?_
    refine loop0 hF hS hl hp2 hx hgl hlen k0 c3 hgr hlow fun a w hF hS => hK9 _ _ ?_
    exact part18 hF.to (hS.pick [0, 1, 2, 6] rfl) hcb hmb lc lm hl hx hcl hcs hret
  by_cases c : 0 < hs.length
  · refine rg17a hF hS c fun a w hF hS => hK6 _ _ (wp_cond_true (hF.at rfl) (rg18 hF.to hS c (by omega) fun a w hF hS => mid a w ?_ hS))
    rw [last_rd hs start c] at hF
    exact hF
  · refine rg17b hF hS c fun a w hF hS => hK6 _ _ (wp_cond_false (hF.at rfl) (wp_skip (mid a w ?_ hS)))
    rw [List.length_eq_zero_iff.1 (show hs.length = 0 by omega)]
    exact hF.to
/-- The calls, and the rest. -/
theorem part2 {v0 v1 : Value} {code more : List Int} (hF : Fr 639 a [(0, v0), (1, v1)]) (hS : St w0 w [.b v0 code, .b v1 more]) (hcb : BytesIn code) (hmb : BytesIn more) (lc : code.length ≤ 4096) (lm : more.length ≤ 4096)
    (hret : ∀ a w, Fr 639 a [(4, .bool true)] → Below w0.heap.size w0 w → Q .ret a w) : (codeFrom Tryz.f3 2).wp Tryz.prog Q a w := by
  obtain ⟨xs, hW, hl, hx⟩ := P6Weather_is code hcb lc
  obtain ⟨ps, hP0, hP, hp⟩ := P6Plan_is more hmb lm xs.length hl
  obtain ⟨start, e1, s0, s1⟩ := P6Pick_is more hmb lm 40 (by omega)
  obtain ⟨cut, e2, k0, k1⟩ := P6Pick_is code hcb lc 20 (by omega)
  obtain ⟨t, hT, hR⟩ := text_read xs hl hx
  have s2 : start ≤ 200 := by omega
  have c3 : cut ≤ 200 := by omega
  have hp2 : ps.length ≤ 100 := by omega
  have hlen := run_len cut ps xs start 0
  have hcl := clips_len cut ps xs start hP
  have hrun := run_in cut ps k0 xs start 0 hx s0
  have hsum := run_sum cut ps xs start 0
  have hv : Evn (fun k => impl_ValidWeather.f k xs) true := okD xs (by omega) hx
  have hgl : (xs.map gr).length = xs.length := List.length_map _
  have iG := iGrowth xs (by omega) hx
  have sG := sGrowth xs (by omega) hx
  have iH := iHeights hl hx hp2 hP s0 s2 k0 c3
  have sH := sHeights hl hx hp2 hP s0 s2 k0 c3
  have iC := iClips hl hx hp2 hP s0 s2 k0 c3
  have sC := sClips hl hx hp2 hP s0 s2 k0 c3
  have hlow : ∀ i : Nat, i < xs.length → (i : Int) ∈ ps → rd (runM cut ps start 0 xs).1 (i : Int) ≤ cut + gr (rd_T43 xs (i : Int)) := fun i hi hm => run_low cut ps k0 xs start 0 i hx s0 hi (by simpa using hm)
  have hgr : ∀ i : Nat, i < xs.length → rd (xs.map gr) (i : Int) = gr (rd_T43 xs (i : Int)) := fun i hi => by
    rw [rd_get xs i hi]
    unfold rd
    rw [Int.toNat_natCast, List.getD_eq_getElem?_getD, List.getElem?_map, List.getElem?_eq_getElem hi]
    rfl
  have hS1 := SumOf_is (runM cut ps start 0 xs).2 (by omega) (fun c hc => by have := hrun.2 c hc; omega)
  have hS2 := SumOf_is (xs.map gr) (by rw [List.length_map]; omega) (fun c hc => by
    obtain ⟨x, hm, rfl⟩ := List.mem_map.1 hc
    have := gr_in (hx x hm)
    omega)
  have hcs : ∀ c ∈ (runM cut ps start 0 xs).2, 0 ≤ c ∧ c ≤ 200 := fun c hc => by have := hrun.2 c hc; omega
  clear hrun
  generalize (runM cut ps start 0 xs).1 = hs at *
  generalize (runM cut ps start 0 xs).2 = cs at *
  generalize xs.map gr = gs at *
  conv => arg 2; whnf
  refine wp_seq_k fun K3 hK3 => rg3 hF hS hW fun a w v5 hF hS => hK3 _ _ ?_
  refine wp_seq_k fun K4 hK4 => rg4 hF hS hP0 fun a w v6 hF hS => hK4 _ _ ?_
  refine wp_seq_k fun K5 hK5 => rg5 hF hS e1 fun a w hF hS => hK5 _ _ ?_
  refine wp_seq_k fun K6 hK6 => rg6 hF hS e2 fun a w hF hS => hK6 _ _ ?_
  refine wp_seq_k fun K7 hK7 => rg7 hF hS hT hR fun a w v9 hF hS => hK7 _ _ ?_
  refine wp_seq_k fun K8 hK8 => rg8 hF hS iG fun a w v11 hF hS => hK8 _ _ ?_
  refine wp_seq_k fun K9 hK9 => rg9 hF hS sG fun a w v13 hF hS => hK9 _ _ ?_
  refine wp_seq_k fun K10 hK10 => rg10 hF hS iH fun a w v15 hF hS => hK10 _ _ ?_
  refine wp_seq_k fun K11 hK11 => rg11 hF hS sH fun a w v17 hF hS => hK11 _ _ ?_
  refine wp_seq_k fun K12 hK12 => rg12 hF hS iC fun a w v19 hF hS => hK12 _ _ ?_
  refine wp_seq_k fun K13 hK13 => rg13 hF hS sC fun a w v21 hF hS => hK13 _ _ ?_
  refine wp_seq_k fun K14 hK14 => wp_seq_k fun K15 hK15 => ?_
  refine rg14 hF hS hl (by omega) hgl hlen (by omega) hv fun a w hF hS => hK15 _ _ (wp_cond_false (hF.at rfl) (wp_skip (hK14 _ _ ?_)))
  exact part14 hF.to hS hcb hmb lc lm hl hx hp2 hgl hlen k0 c3 hgr hlow hS1 hS2 hsum (by omega) hcs hret
/-- The law answers true. -/
theorem law_calls (code more : List Int) (hcb : BytesIn code) (hmb : BytesIn more) {A0 A1 : Option Addr} {c0 c1 : Nat} (w0 : World) (hG : GL w0) (hk0 : Kd.C (Kd.int .u8) w0 A0 code.length code) (hc0 : code.length ≤ c0) (hk1 : Kd.C (Kd.int .u8) w0 A1 more.length more) (hc1 : more.length ≤ c1) :
    Calls Tryz.prog 3 #[.slice A0 code.length c0, .slice A1 more.length c1] w0 fun e w' => e = .returned (.bool true) ∧ Below w0.heap.size w0 w' := by
  have hS : St w0 w0 [.b (.slice A0 code.length c0) code, .b (.slice A1 more.length c1) more] := ⟨hG, Below.refl _ _, fun s hs => by
    rcases List.mem_cons.1 hs with rfl | hs
    · exact ⟨A0, c0, rfl, hc0, hk0⟩
    · obtain rfl := List.mem_singleton.1 hs
      exact ⟨A1, c1, rfl, hc1, hk1⟩⟩
  refine calls_of_wp Tryz.func3 rfl ?_
  have hF : Fr 639 { tmps := #[Value.slice A0 code.length c0, Value.slice A1 more.length c1] ++ Array.replicate (Tryz.f3.ntmps - 2) undef, defers := [] } [(0, .slice A0 code.length c0), (1, .slice A1 more.length c1)] := by
    have e : 2 + (Tryz.f3.ntmps - 2) = 639 := by rw [Tryz.ntmps3]
    have h := Fr.start (Value.slice A0 code.length c0) (Value.slice A1 more.length c1) (Tryz.f3.ntmps - 2)
    rw [e] at h
    exact h
  have hret : ∀ a w, Fr 639 a [(4, .bool true)] → Below w0.heap.size w0 w → bodyPost Tryz.prog Tryz.f3 (fun e w' => e = .returned (.bool true) ∧ Below w0.heap.size w0 w') .ret a w := fun a w hF hB => by
    have e : a.tmps.getD 4 undef = .bool true := hF.at rfl
    refine bodyPost_ret (results_tmp rfl _ _ _) hF.2.1 ⟨?_, hB⟩
    rw [e]
  show Code.wp Tryz.prog _ _ { tmps := #[Value.slice A0 code.length c0, Value.slice A1 more.length c1] ++ Array.replicate (Tryz.f3.ntmps - 2) undef, defers := [] } w0
  generalize (({ tmps := #[Value.slice A0 code.length c0, Value.slice A1 more.length c1] ++ Array.replicate (Tryz.f3.ntmps - 2) undef, defers := [] } : Act)) = a at hF ⊢
  generalize Value.slice A0 code.length c0 = v0 at hF hS
  generalize Value.slice A1 more.length c1 = v1 at hF hS
  clear hk0 hk1 hc0 hc1 hG
  refine wp_seq_k fun K0 hK0 => rg0 hF hS fun a w hF hS => hK0 _ _ ?_
  refine wp_seq_k fun K1 hK1 => wp_seq_k fun K2 hK2 => ?_
  by_cases c1 : (code.length : Int) > 4096
  · exact rg1a hF hS c1 fun a w hF hS => hK2 _ _ (wp_cond_true (hF.at rfl) (wp_seq_k fun K3 hK3 => rg2 hF.to (hS.pick [0] rfl) fun a w hF hS => hK3 _ _ (wp_ret (hret a w hF hS.2.1))))
  by_cases c2 : (more.length : Int) > 4096
  · exact rg1b hF hS c1 c2 fun a w hF hS => hK2 _ _ (wp_cond_true (hF.at rfl) (wp_seq_k fun K3 hK3 => rg2 hF.to (hS.pick [0] rfl) fun a w hF hS => hK3 _ _ (wp_ret (hret a w hF hS.2.1))))
  refine rg1c hF hS c1 c2 fun a w hF hS => hK2 _ _ (wp_cond_false (hF.at rfl) (wp_skip (hK1 _ _ ?_)))
  exact part2 hF.to hS hcb hmb (by omega) (by omega) hret
end
end Go.Proofs.YtibpndhcijmhpaaGreatDoor.B
