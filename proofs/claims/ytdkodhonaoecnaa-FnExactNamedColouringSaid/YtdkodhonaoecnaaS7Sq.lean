/- Colourings by squares, and circular ones. No condition. -/
import Derived.Test.YtdkodhonaoecnaaS6Tri
namespace Go.Proofs.Ytdkodhonaoecnaa
open Go Go.RowKit Eng Mem
set_option maxRecDepth 100000
/-- The squares modulo p, of 1 to m. -/
def sqL (p : Int) (m : Nat) : List Int := (List.range m).map fun i : Nat => Int.tmod (((i : Int) + 1) * ((i : Int) + 1)) p
theorem sqL_succ (p : Int) (m : Nat) : sqL p (m + 1) = sqL p m ++ [Int.tmod (((m : Int) + 1) * ((m : Int) + 1)) p] := by
  unfold sqL; rw [List.range_succ, List.map_append]; rfl
/-- The colours by distance, up to m. -/
def sqC (p : Int) (m : Nat) : List Int := (List.range m).map fun d : Nat => if (sqL p (p - 1).toNat).contains ((d : Int) + 1) then 0 else 1
theorem sqC_succ (p : Int) (m : Nat) : sqC p (m + 1) = sqC p m ++ [if (sqL p (p - 1).toNat).contains ((m : Int) + 1) then 0 else 1] := by
  unfold sqC; rw [List.range_succ, List.map_append]; rfl
def diffG (l : List Int) (n : Int) : Int → Int → Int := fun i j => if l.contains (j - i) then 0 else if l.contains (n - j + i) then 0 else 1
def circG (l : List Int) (n : Int) : Int → Int → Int := fun i j => l.getD (dist n i j - 1).toNat 0
theorem sq_same : ∀ p ∈ [(5 : Int), 13, 17], ∀ i : Fin 17, ∀ j : Fin 17, i < j → (j.val : Int) < p → circG (sqC p (p / 2).toNat) p i.val j.val = diffG (sqL p (p - 1).toNat) p i.val j.val := by decide +kernel
theorem sqC_in (p : Int) (m : Nat) : AllIn (sqC p m) 0 1 := by
  intro x hx
  unfold sqC at hx
  obtain ⟨d, _, rfl⟩ := List.mem_map.1 hx
  split <;> omega
def sqOf (p : Int) : Col × Int := if p = 5 ∨ p = 13 ∨ p = 17 then (colG p 2 (diffG (sqL p (p - 1).toNat) p), 0) else (col0, 2)
theorem diffG_bd (l : List Int) (n i j : Int) : 0 ≤ diffG l n i j ∧ diffG l n i j < 256 := by
  unfold diffG; split
  · omega
  · split <;> omega
theorem diff_ok (l : List Int) {n : Int} (h0 : 0 ≤ n) (h1 : n ≤ 17) : (colG n 2 (diffG l n)).Ok := colG_ok h0 h1 (by omega) fun i j _ _ _ => diffG_bd l n i j
theorem sqOf_ok (p : Int) : (sqOf p).1.Ok := by
  unfold sqOf; split
  · exact diff_ok _ (by omega) (by omega)
  · exact col0_ok
theorem sq_col {p : Int} (h : p = 5 ∨ p = 13 ∨ p = 17) : colG p 2 (circG (sqC p (p / 2).toNat) p) = colG p 2 (diffG (sqL p (p - 1).toNat) p) :=
  colG_congr (by omega) (by omega) fun i j i0 i1 i2 => by
    have := sq_same p (by rcases h with h | h | h <;> subst h <;> simp) ⟨i.toNat, by omega⟩ ⟨j.toNat, by omega⟩ (by show i.toNat < j.toNat; omega) (by simp only; omega)
    simpa [Int.toNat_of_nonneg i0, Int.toNat_of_nonneg (Int.le_trans i0 (Int.le_of_lt i1))] using this
end Go.Proofs.Ytdkodhonaoecnaa
