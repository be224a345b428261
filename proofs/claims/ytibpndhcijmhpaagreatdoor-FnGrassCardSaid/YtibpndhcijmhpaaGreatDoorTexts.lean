/- Plain laws: numbers as decimals, pieces joined by blanks. No program in sight. -/
import Derived.Test.YtibpndhcijmhpaaGreatDoorEv
import Derived.Lib.Join
import Derived.Lib.ItoaNum
namespace Go.Proofs.YtibpndhcijmhpaaGreatDoor.B
set_option linter.unusedSimpArgs false
set_option linter.unusedVariables false

theorem ba_ext {a b : ByteArray} (h : a.data.toList = b.data.toList) : a = b := by
  cases a; cases b
  congr 1
  exact Array.toList_inj.1 h
theorem ba_app (a b : ByteArray) : (a ++ b).data.toList = a.data.toList ++ b.data.toList := by
  simp [ByteArray.data_append]
/-- A number as a decimal. -/
def dB (n : Int) : ByteArray := ⟨(Lib.decDigits n.toNat).toArray⟩
theorem dB_list (n : Int) : (dB n).data.toList = Lib.decDigits n.toNat := by simp [dB]
theorem dec_small (u : Nat) (h : u < 10) : Lib.decDigits u = [UInt8.ofNat (48 + u)] := by
  rw [Lib.decDigits, dif_pos h]
theorem dec_more (u : Nat) (h : ¬ u < 10) : Lib.decDigits u = Lib.decDigits (u / 10) ++ [UInt8.ofNat (48 + u % 10)] := by
  rw [Lib.decDigits, dif_neg h]
theorem dec_len : ∀ (k u : Nat), u < 10 ^ (k + 1) → (Lib.decDigits u).length ≤ k + 1
  | 0, u, h => by rw [dec_small u (by simpa using h)]; simp
  | k + 1, u, h => by
    by_cases hu : u < 10
    · rw [dec_small u hu]; simp
    · rw [dec_more u hu]
      have := dec_len k (u / 10) (by rw [Nat.pow_succ] at h; omega)
      simp
      omega
theorem dB_size (n : Int) (h : n < 1000) : (dB n).size ≤ 3 := by
  have := dec_len 2 n.toNat (by simp; omega)
  simpa [dB, ByteArray.size] using this
/-- Pieces joined by blanks. -/
def jB (ps : List ByteArray) : ByteArray := ⟨(Lib.join (ps.map (·.data.toList)) [32]).toArray⟩
theorem jB_list (ps : List ByteArray) : (jB ps).data.toList = Lib.join (ps.map (·.data.toList)) [32] := by simp [jB]
theorem jB_nil : jB [] = ⟨#[]⟩ := rfl
theorem jB_one (p : ByteArray) : jB [p] = p := ba_ext (by rw [jB_list]; simp [Lib.join_one])
theorem join_snoc (x : List UInt8) (r : List (List UInt8)) (y sep : List UInt8) : Lib.join ((x :: r) ++ [y]) sep = Lib.join (x :: r) sep ++ sep ++ y := by
  rw [List.cons_append, Lib.join_cons, Lib.join_cons]
  simp [Lib.joinTail, List.append_assoc]
theorem jB_snoc (ps : List ByteArray) (p : ByteArray) (h : ps ≠ []) : jB (ps ++ [p]) = (jB ps ++ (⟨#[32]⟩ : ByteArray)) ++ p := by
  cases ps with
  | nil => exact absurd rfl h
  | cons q ps =>
    refine ba_ext ?_
    rw [jB_list, ba_app, ba_app, jB_list]
    simp only [List.map_append, List.map_cons, List.map_nil]
    exact join_snoc _ _ _ _
theorem join_len (sep : List UInt8) : ∀ (r : List (List UInt8)) (m : Nat), (∀ x ∈ r, x.length ≤ m) → (Lib.joinTail sep r).length ≤ r.length * (m + sep.length)
  | [], m, _ => by simp [Lib.joinTail]
  | x :: r, m, h => by
    have h1 := join_len sep r m (fun y hy => h y (List.mem_cons_of_mem _ hy))
    have h2 := h x List.mem_cons_self
    simp only [Lib.joinTail, List.map_cons, List.flatten_cons, List.length_append, List.length_cons] at h1 ⊢
    rw [Nat.succ_mul]
    omega
theorem sz_list (p : ByteArray) : p.data.toList.length = p.size := by
  rw [Array.length_toList]
  rfl
theorem jB_size (ps : List ByteArray) (m : Nat) (h : ∀ p ∈ ps, p.size ≤ m) : (jB ps).size ≤ ps.length * (m + 1) := by
  rw [← sz_list, jB_list]
  cases ps with
  | nil => simp [Lib.join_nil]
  | cons p ps =>
    rw [List.map_cons, Lib.join_cons]
    have h1 := join_len [32] (ps.map (·.data.toList)) m (fun x hx => by
      obtain ⟨q, hq, rfl⟩ := List.mem_map.1 hx
      rw [sz_list]
      exact h q (List.mem_cons_of_mem _ hq))
    have h2 := h p List.mem_cons_self
    rw [← sz_list] at h2
    rw [List.length_map] at h1
    have e1 : ([32] : List UInt8).length = 1 := rfl
    rw [e1] at h1
    rw [List.length_append, List.length_cons, Nat.succ_mul]
    omega
end Go.Proofs.YtibpndhcijmhpaaGreatDoor.B
