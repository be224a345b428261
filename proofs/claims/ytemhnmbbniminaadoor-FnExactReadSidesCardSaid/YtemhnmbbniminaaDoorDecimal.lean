/- Plain laws: the reference's decimals. -/
import Derived.Test.YtemhnmbbniminaaDoorTexts
import Derived.Test.YtemhnmbbniminaaDoorQVx
namespace Go.Proofs.YtemhnmbbniminaaDoor.QV
set_option linter.unusedSimpArgs false
set_option linter.unusedVariables false
open Go.RowKit Go.Proofs.YtemhnmbbniminaaDoor.B Go.Proofs.YtemhnmbbniminaaDoorW.PrintWords Go.Proofs.YtemhnmbbniminaaDoorW.PrintLast Go.Proofs.YtemhnmbbniminaaDoorW.PrintMore

theorem digit_is (u : Nat) (h : u < 1000) : strOfNums [(wrap64 (48 + (Int.tmod (u : Int) 10))) % 256] = ⟨#[UInt8.ofNat (48 + u % 10)]⟩ := by
  have e : (wrap64 (48 + (Int.tmod (u : Int) 10))) % 256 = ((48 + u % 10 : Nat) : Int) := by
    rw [Int.tmod_eq_emod_of_nonneg (by omega), wrap64_in (by omega) (by omega)]
    omega
  rw [e]
  refine ba_ext ?_
  rw [strOfNums_data]
  show [UInt8.ofNat (((48 + u % 10 : Nat) : Int)).toNat] = [UInt8.ofNat (48 + u % 10)]
  rw [Int.toNat_natCast]
theorem decimal_is (n : Nat) (h : n < 1000) : Evn (fun k => spec_Decimal.f k n) (dB n) := by
  induction n using Nat.strongRecOn with
  | _ n ih =>
    refine Evn.succ ?_
    simp only [spec_Decimal.f]
    by_cases hs : n < 10
    · refine Evn.pos (by omega) ?_
      rw [digit_is n h]
      have e : dB (n : Int) = ⟨#[UInt8.ofNat (48 + n % 10)]⟩ := ba_ext (by rw [dB_list, Int.toNat_natCast, dec_small n hs, Nat.mod_eq_of_lt hs])
      rw [e]
      exact Evn.now _
    · refine Evn.neg (by omega) ?_
      have ed : wrap64 (Int.tdiv (n : Int) 10) = ((n / 10 : Nat) : Int) := by
        rw [Int.tdiv_eq_ediv_of_nonneg (by omega), wrap64_in (by omega) (by omega)]
        omega
      rw [ed]
      have h1 := ih (n / 10) (by omega) (by omega)
      refine Evn.bind h1 ?_
      simp only [Option.bind_some]
      rw [digit_is n h]
      have hz := dB_size ((n / 10 : Nat) : Int) (by omega)
      have e : dB (n : Int) = dB ((n / 10 : Nat) : Int) ++ (⟨#[UInt8.ofNat (48 + n % 10)]⟩ : ByteArray) := ba_ext (by rw [ba_app, dB_list, dB_list, Int.toNat_natCast, Int.toNat_natCast, dec_more n hs])
      rw [e]
      have hz2 : (⟨#[UInt8.ofNat (48 + n % 10)]⟩ : ByteArray).size = 1 := rfl
      exact Evn.pos (by rw [hz2]; omega) (Evn.now _)
theorem decimal_int (n : Int) (h0 : 0 ≤ n) (h1 : n < 1000) : Evn (fun k => spec_Decimal.f k n) (dB n) := by
  have := decimal_is n.toNat (by omega)
  rwa [Int.toNat_of_nonneg h0] at this
end Go.Proofs.YtemhnmbbniminaaDoor.QV
