/- Plain laws: the reference's splitting and its numbers. -/
import Derived.Test.YtibpndhcijmhpaaGreatDoorSplits
import Derived.Test.YtibpndhcijmhpaaGreatDoorQHx
namespace Go.Proofs.YtibpndhcijmhpaaGreatDoor.QG
set_option linter.unusedSimpArgs false
set_option linter.unusedVariables false
open Go.RowKit Go.Proofs.YtibpndhcijmhpaaGreatDoor.B Go.Proofs.YtibpndhcijmhpaaGreatDoorW.PrintWords Go.Proofs.YtibpndhcijmhpaaGreatDoorW.PrintLast Go.Proofs.YtibpndhcijmhpaaGreatDoorW.PrintMore

theorem bt_is (s : ByteArray) (i : Nat) (h : i < s.data.toList.length) : bt s (i : Int) = ((s.data.toList[i]).toNat : Int) := by
  have hs : i < s.size := by rw [sz_list] at h; exact h
  have := bt_at s (i : Int) (by rw [Int.toNat_natCast]; exact hs)
  rw [← this]
  congr 1
theorem ext_is (s : ByteArray) (a b : Nat) : (s.extract a b).data.toList = (s.data.toList.take b).drop a := by
  rw [ByteArray.data_extract]
  simp [List.drop_take]
/-- Pieces, the first with something ahead. -/
def splP (c : UInt8) (pre l : List UInt8) : List (List UInt8) := match spl c l with
  | [] => [pre]
  | w :: ws => (pre ++ w) :: ws
theorem splP_nil (c : UInt8) (l : List UInt8) : splP c [] l = spl c l := by
  unfold splP
  cases h : spl c l with
  | nil => exact absurd h (spl_ne c l)
  | cons w ws => rfl
theorem splP_hit (c : UInt8) (pre l : List UInt8) : splP c pre (c :: l) = pre :: spl c l := by
  simp [splP, spl]
theorem splP_miss (c x : UInt8) (pre l : List UInt8) (h : x ≠ c) : splP c pre (x :: l) = splP c (pre ++ [x]) l := by
  unfold splP
  rw [spl, if_neg h]
  cases hs : spl c l with
  | nil => exact absurd hs (spl_ne c l)
  | cons w ws => simp
def numA : Option Nat → Int × Bool
  | some u => ((u : Int), true)
  | none => (0, false)
end Go.Proofs.YtibpndhcijmhpaaGreatDoor.QG
