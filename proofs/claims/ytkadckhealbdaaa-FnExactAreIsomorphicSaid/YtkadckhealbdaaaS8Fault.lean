/- Faults of a part, as plain lists. No condition. -/
import Derived.Test.YtkadckhealbdaaaS6Tri
namespace Go.Proofs.Ytkadckhealbdaaa
open Go Go.RowKit Eng Mem
set_option maxRecDepth 100000
/-- The number x of a fault with y and z. -/
def xF (kind y z : Int) : Int := if kind = 2 then 2 * y - z else z - y
def IsF (l : List Int) (kind y z : Int) : Prop := 1 ≤ xF kind y z ∧ xF kind y z ≤ y ∧ ¬ (kind > 0 ∧ xF kind y z = y) ∧ l.getD (xF kind y z - 1).toNat 0 = l.getD (y - 1).toNat 0 ∧ l.getD (y - 1).toNat 0 = l.getD (z - 1).toNat 0
instance (l : List Int) (kind y z : Int) : Decidable (IsF l kind y z) := by unfold IsF; infer_instance
/-- The faults with z, y from 1 to m. -/
def fz (l : List Int) (kind z : Int) (m : Nat) : List (Int × Int) := ((List.range m).filter fun y : Nat => decide (IsF l kind (y + 1) z)).map fun y : Nat => (xF kind (y + 1) z, (y : Int) + 1)
theorem fz_succ (l : List Int) (kind z : Int) (m : Nat) : fz l kind z (m + 1) = fz l kind z m ++ (if IsF l kind (m + 1) z then [(xF kind (m + 1) z, (m : Int) + 1)] else []) := by
  unfold fz
  rw [List.range_succ, List.filter_append, List.map_append]
  congr 1
  by_cases h : IsF l kind (m + 1) z
  · rw [if_pos h, List.filter_cons_of_pos (by simpa using h)]; rfl
  · rw [if_neg h, List.filter_cons_of_neg (by simpa using h)]; rfl
theorem fz_len (l : List Int) (kind z : Int) (m : Nat) : (fz l kind z m).length ≤ m := by
  unfold fz
  rw [List.length_map]
  exact Nat.le_trans (List.length_filter_le _ _) (by simp)
/-- The same, with z. -/
def fz3 (l : List Int) (kind z : Int) (m : Nat) : List (List Int) := (fz l kind z m).map fun p => [p.1, p.2, z]
theorem fz3_len (l : List Int) (kind z : Int) (m : Nat) : (fz3 l kind z m).length ≤ m := by
  unfold fz3; rw [List.length_map]; exact fz_len _ _ _ _
/-- The faults with z from a + 1 to a + m. -/
def faR (l : List Int) (kind : Int) (a m : Nat) : List (List Int) := (List.range m).flatMap fun i => fz3 l kind ((a + i : Nat) + 1) (a + i)
theorem faR_succ (l : List Int) (kind : Int) (a m : Nat) : faR l kind a (m + 1) = faR l kind a m ++ fz3 l kind ((a + m : Nat) + 1) (a + m) := by
  unfold faR
  rw [List.range_succ, List.flatMap_append]
  simp
theorem faR_len (l : List Int) (kind : Int) (m : Nat) : m ≤ 41 → (faR l kind 0 m).length ≤ 41 * m := by
  induction m with
  | zero => intro _; simp [faR]
  | succ m ih =>
    intro h
    rw [faR_succ, List.length_append]
    have := fz3_len l kind ((0 + m : Nat) + 1) (0 + m)
    have := ih (by omega)
    omega
theorem faR_triples (l : List Int) (kind : Int) (a m : Nat) : ∀ t ∈ faR l kind a m, t.length = 3 := by
  intro t ht
  unfold faR at ht
  obtain ⟨i, _, hi⟩ := List.mem_flatMap.1 ht
  obtain ⟨p, _, rfl⟩ := List.mem_map.1 hi
  rfl
end Go.Proofs.Ytkadckhealbdaaa
