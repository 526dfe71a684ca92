/- What ReflectPart, ColourOf and CountEdges answer. No condition. -/
import Derived.Test.YtdnofmicjgppnaaS5Made
namespace Go.Proofs.Ytdnofmicjgppnaa
open Go Go.RowKit Eng Mem
set_option maxRecDepth 100000
def reflOf (k : Int) (l : List Int) : List Int × Int := if IsPart k l then (l.reverse, 0) else ([], 2)
def colourOf (c : Col) (i j : Int) : Int × Int := if c.Is then (if (0 ≤ i ∧ i ≤ c.n - 1) ∧ (0 ≤ j ∧ j ≤ c.n - 1) ∧ i ≠ j then (c.e (num i j).toNat, 0) else (0, 2)) else (0, 1)
/-- How many of the first m edges have each colour. -/
def cntE (c : Col) (m : Nat) : List Int := (List.range c.k.toNat).map fun q : Nat => (((List.range m).countP fun e => c.e e == (q : Int) : Nat) : Int)
theorem cntE_len (c : Col) (m : Nat) : (cntE c m).length = c.k.toNat := by simp [cntE]
theorem cntE_0 (c : Col) : cntE c 0 = List.replicate c.k.toNat 0 := by
  apply List.ext_getElem
  · simp [cntE]
  · intro i h1 h2; rw [List.getElem_replicate]; simp [cntE]
theorem cntE_get (c : Col) (m q : Nat) (hq : q < c.k.toNat) : (cntE c m).getD q 0 = (((List.range m).countP fun e => c.e e == (q : Int) : Nat) : Int) := by
  simp [cntE, List.getD, hq]
theorem cntE_set (c : Col) (m q : Nat) (hq : c.e m = q) (hk : q < c.k.toNat) : (cntE c m).set q ((cntE c m).getD q 0 + 1) = cntE c (m + 1) := by
  apply List.ext_getElem?
  intro i
  by_cases hi : q = i
  · subst hi
    rw [List.getElem?_set_self (by rw [cntE_len]; exact hk), cntE_get c m q hk]
    simp only [cntE, List.getElem?_map, List.getElem?_range hk, Option.map_some, List.range_succ, List.countP_append]
    simp [hq]
  · rw [List.getElem?_set_ne hi]
    by_cases h2 : i < c.k.toNat
    · simp only [cntE, List.getElem?_map, List.getElem?_range h2, Option.map_some, List.range_succ, List.countP_append]
      have : (c.e m == (i : Int)) = false := by rw [hq]; simp; omega
      simp [this]
    · rw [List.getElem?_eq_none (by rw [cntE_len]; omega), List.getElem?_eq_none (by rw [cntE_len]; omega)]
theorem cntE_bd (c : Col) (m q : Nat) (hq : q < c.k.toNat) : 0 ≤ (cntE c m).getD q 0 ∧ (cntE c m).getD q 0 ≤ m := by
  rw [cntE_get c m q hq]
  have := List.countP_le_length (p := fun e => c.e e == (q : Int)) (l := List.range m)
  simp at this
  omega
def countE (c : Col) : List Int × Int := if c.Is then (cntE c (edgesOf c.n).toNat, 0) else ([], 1)
theorem Col.Is.lt {c : Col} (h : c.Is) {i : Nat} (hi : (i : Int) < edgesOf c.n) : c.e i < c.k := by
  have hb := edges_bd (n := c.n) (by have := h.1; omega) h.2.1
  have := h.2.2.2.2 i (by omega)
  rwa [if_pos hi] at this
end Go.Proofs.Ytdnofmicjgppnaa
