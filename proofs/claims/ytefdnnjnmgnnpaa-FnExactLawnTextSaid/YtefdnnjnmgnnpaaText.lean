/- Walks: a lawn as text. -/
import Derived.Test.YtefdnnjnmgnnpaaTurnW
import Derived.Maps.AppendAt
import Derived.Laws.IdiomStrings
import Derived.Deep.DeepCutAuto
namespace Go.Proofs.Ytefdnnjnmgnnpaa.L
set_option linter.unusedSimpArgs false
set_option linter.unusedVariables false
open Go.RowKit Go.Proofs.Ytefdnnjnmgnnpaa.B

def letU (n : Int) : UInt8 := if n = 0 then 46 else if n = 1 then 35 else if n = 2 then 84 else 61
/-- Bytes as a text; a name that nothing opens. -/
def strB (l : List UInt8) : ByteArray := ⟨l.toArray⟩
def bytesV (l : List UInt8) : List Value := l.map fun b => .int .u8 (b.toNat : Int)
def letAt (L : Lw) (W k : Nat) : UInt8 := letU (L.c (srcN W k))
/-- The text of the first k cells. -/
def textL (L : Lw) (W : Nat) : Nat → List UInt8
  | 0 => []
  | k + 1 => textL L W k ++ letAt L W k :: if k % W = W - 1 then [10] else []
def rowT (L : Lw) (W y : Nat) : Nat → List UInt8
  | 0 => []
  | x + 1 => rowT L W y x ++ [letAt L W (y * W + x)]
theorem textL_len (L : Lw) (W : Nat) : ∀ k, (textL L W k).length ≤ 2 * k
  | 0 => by simp [textL]
  | k + 1 => by
    have := textL_len L W k
    unfold textL
    rw [List.length_append, List.length_cons]
    split <;> simp <;> omega
theorem rowT_len (L : Lw) (W y : Nat) : ∀ x, (rowT L W y x).length = x
  | 0 => rfl
  | x + 1 => by unfold rowT; rw [List.length_append, rowT_len L W y x]; rfl
theorem textL_row (L : Lw) {W y : Nat} (hW : 1 ≤ W) : ∀ x, x < W → textL L W (y * W + x) = textL L W (y * W) ++ rowT L W y x
  | 0, _ => by simp [rowT]
  | x + 1, h => by
    rw [← Nat.add_assoc, textL, textL_row L hW x (by omega), rowT, (kAt (k := y) (show x < W by omega)).1, if_neg (by omega), List.append_assoc]
theorem textL_full (L : Lw) {W y : Nat} (hW : 1 ≤ W) : textL L W ((y + 1) * W) = textL L W (y * W) ++ rowT L W y W ++ [10] := by
  obtain ⟨V, rfl⟩ : ∃ V, W = V + 1 := ⟨W - 1, by omega⟩
  rw [show (y + 1) * (V + 1) = y * (V + 1) + V + 1 by rw [Nat.add_mul y 1 (V + 1)]; omega, textL, textL_row L hW V (by omega), rowT, (kAt (k := y) (show V < V + 1 by omega)).1, if_pos (by omega)]
  simp
theorem valid_c {L : Lw} (hL : Lw.Ok L) (hv : validB L = true) {i : Nat} (hi : i < 100) : 0 ≤ L.c i ∧ L.c i ≤ 3 := by
  refine ⟨(hL.2.2.2.2 i hi).1, ?_⟩
  by_cases h : fineB L i = true
  · simp only [fineB, Bool.and_eq_true, decide_eq_true_eq] at h
    exact h.1
  · rw [validB_bad hi (by simpa using h)] at hv
    cases hv
theorem idxLet (k : IntKind) (v : Int) (h0 : 0 ≤ v) (h1 : v ≤ 3) (w : World) (hk : k = .u8 ∨ k = .i64) : (Instr.index 9 (.string { data := #[46, 35, 84, 61] }) (.int k v)).run Try.prog w = .ok (.int .u8 ((letU v).toNat : Int)) w := by
  revert w
  have : v = 0 ∨ v = 1 ∨ v = 2 ∨ v = 3 := by omega
  rcases hk with rfl | rfl <;> rcases this with rfl | rfl | rfl | rfl <;> (intro w; rfl)
theorem oneStr (b : UInt8) (w : World) : (convert 58 9 (.slice (some ⟨w.heap.size, 0, none⟩) 1 1)).run Try.prog (w.alloc (.cells #[.int .u8 (b.toNat : Int)] 5)) = .ok (.string (strB [b])) (w.alloc (.cells #[.int .u8 (b.toNat : Int)] 5)) :=
  run_convert_bytes_back _ _ _ 5 ⟨w.heap.size, 0, none⟩ 1 [b] Try.underlying58 Try.underlying5 Try.underlying9 (fun j hj => by
    have e : j = 0 := by simpa using hj
    subst e
    exact (blkC (blkN rfl) 0).trans rfl)
theorem strB_app (a b : List UInt8) : strB a ++ strB b = strB (a ++ b) := by
  unfold strB
  apply ByteArray.ext
  simp
theorem strB_small {a b : List UInt8} (ha : a.length ≤ 1000) (hb : b.length ≤ 1000) : ¬ 9223372036854775807 < (strB a).size + (strB b).size := by
  have s1 : (strB a).size = a.length := by simp [strB, ByteArray.size]
  have s2 : (strB b).size = b.length := by simp [strB, ByteArray.size]
  omega

set_option maxRecDepth 100000 in
set_option maxHeartbeats 2000000 in
theorem sText (L : Lw) (hL : Lw.Ok L) (hv : validB L = true) (W H : Nat) (hw : L.wide = W) (hh : L.high = H) (hW1 : 1 ≤ W) (hW : W ≤ 10) (hH1 : 1 ≤ H) (hH : H ≤ 10) (g : Nat) (t : TypeId) (w : World) (hg : w.heap[g]? = some (.cells L.cells t (0, 0))) :
    Calls Try.prog 18 #[.pointer (some ⟨g, 0, none⟩)] w fun e w' => e = .returned (.string (strB (textL L W (W * H)))) ∧ Below w.heap.size w w' := by
  have g0 := L.get0
  have g1 := L.get1
  rw [hw] at g0
  rw [hh] at g1
  have HV := Lib.hid (fun i (hi : i < 100) => valid_c hL hv hi)
  have hlt := blkLt hg
  have HGG := Lib.hid hg
  clear hw hh hL hv hg
  go_enter Try.func18, Try.ntmps18
  go_wp2
  rw [show ({ data := #[] } : ByteArray) = strB [] from rfl]
  go_loopw [3, 4] (fun s i wr => ∃ y : Nat, y ≤ H ∧ i = .int .i8 y ∧ s = .string (strB (textL L W (y * W))) ∧ Below w.heap.size w wr) (fun _ i _ => H - (intOf i).toNat)
  case atStart => exact ⟨0, by omega, rfl, by rw [Nat.zero_mul]; rfl, Below.refl _ _⟩
  case round =>
    obtain ⟨y, hy, rfl, rfl, hB⟩ := hrel
    have d1 := (blkC (blkB hB HGG.out hlt) 1).trans g1
    by_cases hy1 : y < H
    · have hd : decide ((y : Int) < H) = true := by simp; omega
      have hdn : decide (y < H) = true := by simp; omega
      go_wp2
      clear d1
      go_loopw [3, 5] (fun s i wr => ∃ x : Nat, x ≤ W ∧ i = .int .i8 x ∧ s = .string (strB (textL L W (y * W) ++ rowT L W y x)) ∧ Below w.heap.size w wr) (fun _ i _ => W - (intOf i).toNat)
      case atStart => exact ⟨0, by omega, rfl, by simp [rowT], hB⟩
      case round =>
        obtain ⟨x, hx, rfl, rfl, hB⟩ := hrel
        have hgw := blkB hB HGG.out hlt
        have d0 := (blkC hgw 0).trans g0
        have hl1 := textL_len L W (y * W)
        have hl2 := rowT_len L W y x
        have hyw : y * W ≤ 10 * 10 := Nat.mul_le_mul (by omega) hW
        by_cases hx1 : x < W
        · have hd2 : decide ((x : Int) < W) = true := by simp; omega
          have hd2n : decide (x < W) = true := by simp; omega
          obtain ⟨v0, v1⟩ := HV.out (y * 10 + x) (by omega)
          have c3 := (blkC hgw (2 + y * 10 + x)).trans (L.getYX (by omega))
          have hla : letAt L W (y * W + x) = letU (L.c (y * 10 + x)) := by unfold letAt srcN; rw [(kAt (k := y) hx1).1, (kAt (k := y) hx1).2]
          obtain ⟨v, hv⟩ : ∃ v, v = L.c (y * 10 + x) := ⟨_, rfl⟩
          rw [← hv] at v0 v1 c3 hla
          have hidx := fun w => idxLet .u8 v v0 v1 w (.inl rfl)
          obtain ⟨b, hb⟩ : ∃ b, b = letU v := ⟨_, rfl⟩
          rw [← hb] at hidx hla
          have hone := oneStr b wr
          have hcat := strB_small (a := textL L W (y * W) ++ rowT L W y x) (b := [b]) (by rw [List.length_append]; omega) (by simp)
          have hrt : textL L W (y * W) ++ rowT L W y (x + 1) = textL L W (y * W) ++ rowT L W y x ++ [b] := by rw [rowT, hla, List.append_assoc]
          have HRT := Lib.hid hrt
          have HC3 := Lib.hid hgw
          clear hrt hla hv hb hgw hl1 hl2
          generalize textL L W (y * W) ++ rowT L W y x = l at *
          go_wp2
          refine ⟨?_, by simp [intOf]; omega⟩
          first | exact ⟨x + 1, by omega, by go_num, by rw [HRT.out, ← strB_app], belA hB⟩ | ((repeat (apply Exists.intro)); exact ⟨⟨x + 1, by omega, by go_num, by rw [HRT.out, ← strB_app], belA hB⟩, rfl⟩)
        · have hd2 : decide ((x : Int) < W) = false := by simp; omega
          have hd2n : decide (x < W) = false := by simp; omega
          have e : x = W := by omega
          have hf : textL L W ((y + 1) * W) = textL L W (y * W) ++ rowT L W y x ++ [10] := by rw [e]; exact textL_full L hW1
          have hcat : ¬ 9223372036854775807 < (strB (textL L W (y * W) ++ rowT L W y x)).size + ({ data := #[10] } : ByteArray).size := strB_small (a := textL L W (y * W) ++ rowT L W y x) (b := [10]) (by rw [List.length_append]; omega) (by simp)
          have HF := Lib.hid hf
          clear e hf hl1 hl2 hgw
          generalize textL L W (y * W) ++ rowT L W y x = l at *
          go_wp2
          refine ⟨?_, by simp [intOf]; omega⟩
          first | exact ⟨y + 1, by omega, by go_num, by rw [HF.out, ← strB_app]; rfl, hB⟩ | ((repeat (apply Exists.intro)); exact ⟨⟨y + 1, by omega, by go_num, by rw [HF.out, ← strB_app]; rfl, hB⟩, rfl⟩)
    · have hd : decide ((y : Int) < H) = false := by simp; omega
      have hdn : decide (y < H) = false := by simp; omega
      have e : y * W = W * H := by rw [Nat.mul_comm, show y = H by omega]
      have E := Lib.hid e
      clear e
      go_wp2
      go_ret
      exact ⟨by rw [E.out]; rfl, hB⟩
end Go.Proofs.Ytefdnnjnmgnnpaa.L
