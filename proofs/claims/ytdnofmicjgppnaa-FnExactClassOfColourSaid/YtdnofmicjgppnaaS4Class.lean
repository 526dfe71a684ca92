/- The class of a colour, as a plain list. No condition. -/
import Derived.Test.YtdnofmicjgppnaaS3Part
namespace Go.Proofs.Ytdnofmicjgppnaa
open Go Go.RowKit Eng Mem
/-- Of the first n numbers of l: the places, from 1 on, where c stands. -/
def posOf (c : Int) (l : List Int) (n : Nat) : List Int := ((List.range n).filter fun i => l.getD i 0 == c).map fun i : Nat => (i : Int) + 1
theorem posOf_succ (c : Int) (l : List Int) (n : Nat) : posOf c l (n + 1) = posOf c l n ++ (if l.getD n 0 = c then [(n : Int) + 1] else []) := by
  unfold posOf
  rw [List.range_succ, List.filter_append, List.map_append]
  congr 1
  by_cases h : l.getD n 0 = c
  · rw [if_pos h, List.filter_cons_of_pos (by simpa using h)]; rfl
  · rw [if_neg h, List.filter_cons_of_neg (by simpa using h)]; rfl
theorem posOf_len (c : Int) (l : List Int) (n : Nat) : (posOf c l n).length ≤ n := by
  unfold posOf
  rw [List.length_map]
  exact Nat.le_trans (List.length_filter_le _ _) (by simp)
def classOf (k : Int) (l : List Int) (c : Int) : List Int × Int := if IsPart k l ∧ 0 ≤ c ∧ c ≤ k - 1 then (posOf c l l.length, 0) else ([], 2)
theorem classOf_len (k : Int) (l : List Int) (c : Int) : (classOf k l c).1.length ≤ 40 := by
  unfold classOf
  split
  · rename_i h; exact Nat.le_trans (posOf_len _ _ _) h.1.2.2.1
  · simp
end Go.Proofs.Ytdnofmicjgppnaa
