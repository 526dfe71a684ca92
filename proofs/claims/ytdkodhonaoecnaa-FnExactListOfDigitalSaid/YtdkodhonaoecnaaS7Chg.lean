/- What ChangeEdge, PartOfColouring and ListOfDigital answer. No condition. -/
import Derived.Test.YtdkodhonaoecnaaS7Dig
import Derived.Test.YtdkodhonaoecnaaS6Eq
namespace Go.Proofs.Ytdkodhonaoecnaa
open Go Go.RowKit Eng Mem
set_option maxRecDepth 100000
def Col.setE (c : Col) (i : Nat) (x : Int) : Col := ⟨c.n, c.k, c.es.set i x⟩
theorem Col.Ok.setE {c : Col} (h : c.Ok) (i : Nat) {x : Int} (h0 : 0 ≤ x) (h1 : x < 256) : (c.setE i x).Ok :=
  ⟨by simp [Col.setE, h.len], fun e he => by
    rcases List.mem_or_eq_of_mem_set he with h' | h'
    · exact h.byte e h'
    · subst h'; exact ⟨h0, h1⟩, h.n0, h.n1, h.k0, h.k1⟩
def chgIs (c : Col) (i j x : Int) : Prop := (0 ≤ i ∧ i ≤ c.n - 1) ∧ (0 ≤ j ∧ j ≤ c.n - 1) ∧ i ≠ j ∧ 0 ≤ x ∧ x ≤ c.k - 1
instance (c : Col) (i j x : Int) : Decidable (chgIs c i j x) := by unfold chgIs; infer_instance
def chgOf (c : Col) (i j x : Int) : Col × Int := if c.Is then (if chgIs c i j x then (c.setE (num i j).toNat x, 0) else (col0, 2)) else (col0, 1)
theorem chgOf_ok {c : Col} (h : c.Ok) (i j x : Int) : (chgOf c i j x).1.Ok := by
  unfold chgOf
  split
  · rename_i hI
    split
    · rename_i hc
      exact h.setE _ hc.2.2.2.1 (by have := hc.2.2.2.2; have := hI.2.2.2.1; omega)
    · exact col0_ok
  · exact col0_ok
/-- The colours at point 0, to the points from 1 to m. -/
def row0 (c : Col) (m : Nat) : List Int := (List.range m).map fun j : Nat => c.e (num 0 ((j : Int) + 1)).toNat
theorem row0_succ (c : Col) (m : Nat) : row0 c (m + 1) = row0 c m ++ [c.e (num 0 ((m : Int) + 1)).toNat] := by
  unfold row0; rw [List.range_succ, List.map_append]; rfl
theorem row0_len (c : Col) (m : Nat) : (row0 c m).length = m := by simp [row0]
theorem row0_in {c : Col} (h : c.Ok) (m : Nat) : AllIn (row0 c m) 0 255 := by
  intro x hx
  unfold row0 at hx
  obtain ⟨j, _, rfl⟩ := List.mem_map.1 hx
  have := h.e_bd (num 0 ((j : Int) + 1)).toNat
  omega
def partCol (c : Col) : List Int × Int := if c.Is then (if c.k ≤ 3 then (if colG c.n c.k (partG (row0 c (c.n - 1).toNat)) = c then (row0 c (c.n - 1).toNat, 0) else ([], 5)) else ([], 2)) else ([], 1)
end Go.Proofs.Ytdkodhonaoecnaa
