/- How free parts go on. No condition. -/
import Derived.Test.YtkadckhealbdaaaS8Cnt
namespace Go.Proofs.Ytkadckhealbdaaa
open Go Go.RowKit Eng Mem
/-- The colours below m with which a free part goes on. -/
def nextL (l : List Int) (kind : Int) (m : Nat) : List Int := ((List.range m).filter fun c : Nat => decide (fz (l ++ [(c : Int)]) kind (l.length + 1) l.length = [])).map fun c : Nat => (c : Int)
theorem nextL_succ (l : List Int) (kind : Int) (m : Nat) : nextL l kind (m + 1) = nextL l kind m ++ (if fz (l ++ [(m : Int)]) kind (l.length + 1) l.length = [] then [(m : Int)] else []) := by
  unfold nextL
  rw [List.range_succ, List.filter_append, List.map_append]
  congr 1
  by_cases h : fz (l ++ [(m : Int)]) kind (l.length + 1) l.length = []
  · rw [if_pos h, List.filter_cons_of_pos (by simpa using h)]; rfl
  · rw [if_neg h, List.filter_cons_of_neg (by simpa using h)]; rfl
theorem nextL_len (l : List Int) (kind : Int) (m : Nat) : (nextL l kind m).length ≤ m := by
  unfold nextL
  rw [List.length_map]
  exact Nat.le_trans (List.length_filter_le _ _) (by simp)
theorem nextL_bd (l : List Int) (kind : Int) (m : Nat) : ∀ x ∈ nextL l kind m, 0 ≤ x ∧ x < m := by
  intro x hx
  unfold nextL at hx
  obtain ⟨c, hc, rfl⟩ := List.mem_map.1 hx
  have := (List.mem_filter.1 hc).1
  simp at this
  omega
end Go.Proofs.Ytkadckhealbdaaa
