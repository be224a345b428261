/- Plain laws: GrowthAll. -/
import Derived.Test.YtnncfoggpoimaaaWPure
import Derived.Test.YtnncfoggpoimaaaQWx6
import Derived.Test.YtnncfoggpoimaaaQWx7
namespace Go.Proofs.Ytnncfoggpoimaaa.QW
set_option linter.unusedSimpArgs false
set_option linter.unusedVariables false
open Go.RowKit Go.Proofs.Ytnncfoggpoimaaa.B Go.Proofs.YtnncfoggpoimaaaW.PrintWords Go.Proofs.YtnncfoggpoimaaaW.PrintLast Go.Proofs.YtnncfoggpoimaaaW.PrintMore

theorem markW_loop (len : Nat) (hl : len ≤ 1048576) : ∀ (n i : Nat) (m : Int) (xs : List (S45)), xs.length = len → i + n = len → 0 ≤ m → m ≤ 1 + 2 * i →
    ∃ ys q, Evn (fun k => laws_markWeatherS.l0 k xs m i) (q, ys) ∧ 0 ≤ q := by
  intro n
  induction n with
  | zero =>
    intro i m xs hx hi h0 h1
    refine ⟨xs, m, Evn.succ ?_, h0⟩
    simp only [laws_markWeatherS.l0]
    exact Evn.neg (by omega) (Evn.now _)
  | succ n ih =>
    intro i m xs hx hi h0 h1
    have step : ∀ zs : List (S45), zs.length = len → ∃ ys q, Evn (fun k => laws_markWeatherS.l0 k zs (m + 1 + 1) (i + 1 : Nat)) (q, ys) ∧ 0 ≤ q := fun zs hz => ih (i + 1) (m + 1 + 1) zs hz (by omega) (by omega) (by omega)
    obtain ⟨ys, q, h, hq⟩ := step ((xs.set (i : Int).toNat (⟨IntKind.i8.wrap m, (rd_T45 xs i).f1⟩ : S45)).set (i : Int).toNat (⟨(rd_T45 (xs.set (i : Int).toNat (⟨IntKind.i8.wrap m, (rd_T45 xs i).f1⟩ : S45)) i).f0, IntKind.i8.wrap (m + 1)⟩ : S45)) (by rw [List.length_set, List.length_set]; exact hx)
    refine ⟨ys, q, Evn.succ ?_, hq⟩
    simp only [laws_markWeatherS.l0, Option.bind_some]
    refine Evn.pos (by omega) (Evn.pos (by omega) ?_)
    rw [wrap64_in (x := m + 1) (by omega) (by omega), wrap64_in (x := m + 1 + 1) (by omega) (by omega), wrap64_in (x := (i : Int) + 1) (by omega) (by omega)]
    exact h
theorem markW (xs : List (S45)) (hl : xs.length ≤ 1048576) : ∃ ys q, Evn (fun k => laws_markWeatherS.f k xs 1) (q, ys) ∧ 0 ≤ q := by
  obtain ⟨ys, q, h, hq⟩ := markW_loop xs.length hl xs.length 0 1 xs rfl (by omega) (by omega) (by omega)
  exact ⟨ys, q, by unfold laws_markWeatherS.f; exact h, hq⟩
theorem growth_loop (xs : List (S45)) (hl : xs.length ≤ 1048576) : ∀ (n i : Nat) (acc : List Int), i + n = xs.length → acc.length ≤ i →
    ∃ r, Evn (fun k => spec_GrowthAll.l0 k xs acc i) (r, 0) ∧ Evn (fun k => impl_GrowthAll.l0 k acc xs (xs.length : Int) i) (r, 0) ∧ r.length ≤ xs.length := by
  intro n
  induction n with
  | zero =>
    intro i acc hi ha
    refine ⟨acc, Evn.succ ?_, Evn.succ ?_, by omega⟩
    · simp only [spec_GrowthAll.l0]
      exact Evn.neg (by omega) (Evn.now _)
    · simp only [impl_GrowthAll.l0]
      exact Evn.neg (by omega) (Evn.now _)
  | succ n ih =>
    intro i acc hi ha
    obtain ⟨g, hg⟩ : ∃ g, spec_l03Growth.f (rd_T45 xs i).f0 (rd_T45 xs i).f1 = some g := ⟨_, rfl⟩
    have hg2 : impl_Weather_grows.f (rd_T45 xs i).f0 (rd_T45 xs i).f1 = some g := hg
    obtain ⟨r, h1, h2, h3⟩ := ih (i + 1) (acc ++ [g]) (by omega) (by simp; omega)
    refine ⟨r, Evn.succ ?_, Evn.succ ?_, h3⟩
    · simp only [spec_GrowthAll.l0, hg, Option.bind_some]
      refine Evn.pos (by omega) (Evn.pos (by omega) (Evn.pos (by omega) ?_))
      rw [wrap64_in (x := (i : Int) + 1) (by omega) (by omega)]
      simpa using h1
    · simp only [impl_GrowthAll.l0, hg2, Option.bind_some]
      refine Evn.pos (by omega) (Evn.pos (by omega) (Evn.pos (by omega) (Evn.pos (by omega) ?_)))
      rw [wrap64_in (x := (i : Int) + 1) (by omega) (by omega)]
      simpa using h2
theorem growth_both (xs : List (S45)) (hl : xs.length ≤ 1048576) : ∃ r q, Evn (fun k => spec_GrowthAll.f k xs) (r, q) ∧ Evn (fun k => impl_GrowthAll.f k xs) (r, q) ∧ r.length ≤ 1048576 := by
  obtain ⟨b, hb⟩ := ok xs hl
  have hi : Evn (fun k => impl_ValidWeather.f k xs) b := hb
  unfold spec_GrowthAll.f impl_GrowthAll.f
  simp only [Option.bind_some]
  cases b with
  | false => exact ⟨[], 1, Evn.bind hb (Evn.neg (by decide) (Evn.now _)), Evn.bind hi (Evn.neg (by decide) (Evn.now _)), by simp⟩
  | true =>
    obtain ⟨r, h1, h2, h3⟩ := growth_loop xs hl xs.length 0 [] (by omega) (by simp)
    exact ⟨r, 0, Evn.bind hb (Evn.pos rfl h1), Evn.bind hi (Evn.pos rfl h2), by omega⟩
theorem growthAll (xs : List (S47)) (hx : xs.length ≤ 140737488351232) : ∃ k, laws_FnExactGrowthAll.f k xs = some true := by
  refine Evn.ex ?_
  unfold laws_FnExactGrowthAll.f
  rw [sz xs 1048576 (by omega) (by omega) hx]
  simp only [Option.bind_some]
  by_cases h1 : (1048576 : Int) - xs.length < 0
  · rw [if_pos h1]
    exact Evn.pos (by omega) (Evn.now _)
  rw [if_neg h1]
  refine Evn.neg h1 ?_
  obtain ⟨t, ht, htl⟩ := toW xs (by omega)
  have hl : t.length ≤ 1048576 := by omega
  obtain ⟨r, q, hs, hi, hr⟩ := growth_both t hl
  obtain ⟨ys, hm, hh⟩ := markI r hr
  obtain ⟨zs, m, hm2, hm0⟩ := markW t hl
  refine Evn.bind ht (Evn.bind hs (Evn.bind ht (Evn.bind hi (Evn.bind (eqI r hr) (Evn.pos rfl (Evn.succ ?_))))))
  simp only [laws_FnExactGrowthAll.j0, bne_self_eq_false]
  refine Evn.neg (by decide) (Evn.bind ht (Evn.bind (eqW t hl) (Evn.pos rfl (Evn.bind hm2 (Evn.neg (by simp; omega) (Evn.bind (eqI r hr) (Evn.pos rfl (Evn.succ ?_))))))))
  simp only [laws_FnExactGrowthAll.j1]
  refine Evn.neg (by decide) (Evn.bind hm (Evn.bind hh (Evn.neg (by omega) (Evn.pos rfl (Evn.bind ht (Evn.bind hi (Evn.bind (eqI r hr) (Evn.pos rfl (Evn.succ ?_)))))))))
  simp only [laws_FnExactGrowthAll.j2, bne_self_eq_false]
  exact Evn.neg (by decide) (Evn.bind hh (Evn.neg (by omega) (Evn.pos rfl (Evn.now _))))
end Go.Proofs.Ytnncfoggpoimaaa.QW
