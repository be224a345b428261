/- Plain laws: SameWeather, ValidWeather, GrowthAll. -/
import Derived.Test.YtnncfoggpoimaaaWPure
import Derived.Test.YtnncfoggpoimaaaQWx3
import Derived.Test.YtnncfoggpoimaaaQWx7
namespace Go.Proofs.Ytnncfoggpoimaaa.QW
set_option linter.unusedSimpArgs false
set_option linter.unusedVariables false
open Go.RowKit Go.Proofs.Ytnncfoggpoimaaa.B Go.Proofs.YtnncfoggpoimaaaW.PrintWords Go.Proofs.YtnncfoggpoimaaaW.PrintLast Go.Proofs.YtnncfoggpoimaaaW.PrintMore

theorem same_loop (xs ys : List (S45)) (hl : xs.length ≤ 1048576) (he : xs.length = ys.length) : ∀ (n i : Nat), i + n = xs.length → ∃ b, Evn (fun k => spec_SameWeather.l0 k xs ys i) b ∧ Evn (fun k => impl_Weather_30.l0 k xs ys (xs.length : Int) i) b := by
  intro n
  induction n with
  | zero =>
    intro i hi
    refine ⟨true, Evn.succ ?_, Evn.succ ?_⟩
    · simp only [spec_SameWeather.l0]
      exact Evn.neg (by omega) (Evn.now _)
    · simp only [impl_Weather_30.l0]
      exact Evn.neg (by omega) (Evn.now _)
  | succ n ih =>
    intro i hi
    obtain ⟨b, h1, h2⟩ := ih (i + 1) (by omega)
    by_cases hd : (!(((rd_T45 xs i).f0) == ((rd_T45 ys i).f0)) || (!(((rd_T45 xs i).f1) == ((rd_T45 ys i).f1)))) = true
    · refine ⟨false, Evn.succ ?_, Evn.succ ?_⟩
      · simp only [spec_SameWeather.l0]
        exact Evn.pos (by omega) (Evn.pos (by omega) (Evn.pos (by omega) (Evn.pos hd (Evn.now _))))
      · simp only [impl_Weather_30.l0]
        exact Evn.pos (by omega) (Evn.pos (by omega) (Evn.pos (by omega) (Evn.pos (by omega) (Evn.pos hd (Evn.now _)))))
    · refine ⟨b, Evn.succ ?_, Evn.succ ?_⟩
      · simp only [spec_SameWeather.l0]
        refine Evn.pos (by omega) (Evn.pos (by omega) (Evn.pos (by omega) (Evn.neg hd ?_)))
        rw [wrap64_in (by omega) (by omega)]
        simpa using h1
      · simp only [impl_Weather_30.l0]
        refine Evn.pos (by omega) (Evn.pos (by omega) (Evn.pos (by omega) (Evn.pos (by omega) (Evn.neg hd ?_))))
        rw [wrap64_in (by omega) (by omega)]
        simpa using h2
theorem same_both (xs ys : List (S45)) (hl : xs.length ≤ 1048576) : ∃ b, Evn (fun k => spec_SameWeather.f k xs ys) b ∧ Evn (fun k => impl_SameWeather.f k xs ys) b := by
  unfold spec_SameWeather.f impl_SameWeather.f impl_Weather_30.f
  by_cases he : xs.length = ys.length
  · obtain ⟨b, h1, h2⟩ := same_loop xs ys hl he xs.length 0 (by omega)
    exact ⟨b, Evn.pos (by omega) h1, Evn.bind (Evn.pos (by omega) h2) (Evn.now _)⟩
  · exact ⟨false, Evn.neg (by omega) (Evn.now _), Evn.bind (Evn.neg (by omega) (Evn.now _)) (Evn.now _)⟩
theorem sameWeather (xs ys : List (S47)) (hx : xs.length ≤ 140737488351232) (hy : ys.length ≤ 140737488351232) : ∃ k, laws_FnExactSameWeather.f k xs ys = some true := by
  refine Evn.ex ?_
  unfold laws_FnExactSameWeather.f
  rw [sz xs 1048576 (by omega) (by omega) hx]
  simp only [Option.bind_some]
  by_cases h1 : (1048576 : Int) - xs.length < 0
  · rw [if_pos h1]
    exact Evn.pos (by omega) (Evn.now _)
  rw [if_neg h1]
  refine Evn.neg h1 ?_
  rw [sz ys _ (by omega) (by omega) hy]
  simp only [Option.bind_some]
  by_cases h2 : (1048576 : Int) - xs.length - ys.length < 0
  · rw [if_pos h2]
    exact Evn.pos (by omega) (Evn.now _)
  rw [if_neg h2]
  refine Evn.neg h2 ?_
  obtain ⟨t, ht, htl⟩ := toW xs (by omega)
  obtain ⟨u, hu, hul⟩ := toW ys (by omega)
  obtain ⟨b, hb, hb2⟩ := same_both t u (by omega)
  refine Evn.bind ht (Evn.bind hu (Evn.bind hb (Evn.bind ht (Evn.bind hu (Evn.bind hb2 (Evn.neg (by simp) (Evn.bind ht (Evn.bind (eqW t (by omega)) (Evn.pos rfl ?_)))))))))
  exact Evn.bind hu (Evn.bind (eqW u (by omega)) (Evn.pos rfl (Evn.now _)))

theorem validWeather (xs : List (S47)) (hx : xs.length ≤ 140737488351232) : ∃ k, laws_FnExactValidWeather.f k xs = some true := by
  refine Evn.ex ?_
  unfold laws_FnExactValidWeather.f
  rw [sz xs 1048576 (by omega) (by omega) hx]
  simp only [Option.bind_some]
  by_cases h1 : (1048576 : Int) - xs.length < 0
  · rw [if_pos h1]
    exact Evn.pos (by omega) (Evn.now _)
  rw [if_neg h1]
  refine Evn.neg h1 ?_
  obtain ⟨t, ht, htl⟩ := toW xs (by omega)
  obtain ⟨b, hb⟩ := ok t (by omega)
  have hs : Evn (fun k => spec_ValidWeather.f k t) b := by unfold spec_ValidWeather.f; exact Evn.bind hb (Evn.now _)
  have hi : Evn (fun k => impl_ValidWeather.f k t) b := hb
  exact Evn.bind ht (Evn.bind hs (Evn.bind ht (Evn.bind hi (Evn.neg (by simp) (Evn.bind ht (Evn.bind (eqW t (by omega)) (Evn.pos rfl (Evn.now _))))))))
end Go.Proofs.Ytnncfoggpoimaaa.QW
