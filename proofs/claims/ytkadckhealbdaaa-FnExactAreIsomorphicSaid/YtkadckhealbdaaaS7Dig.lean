/- What DigitalOf, ColouringOfPart and BySquares answer. No condition. -/
import Derived.Test.YtkadckhealbdaaaS6Tri
namespace Go.Proofs.Ytkadckhealbdaaa
open Go Go.RowKit Eng Mem
set_option maxRecDepth 100000
def digG (l : List Int) : Int → Int → Int := fun i j => l.getD (xr i j - 1).toNat 0
def DigIs (d k : Int) (l : List Int) : Prop := (1 ≤ d ∧ d ≤ 4) ∧ (1 ≤ k ∧ k ≤ 4) ∧ (l.length : Int) = 2 ^ d.toNat - 1 ∧ AllIn l 0 (k - 1)
instance (d k : Int) (l : List Int) : Decidable (DigIs d k l) := by unfold DigIs; infer_instance
def digOf (d k : Int) (l : List Int) : Col × Int := if DigIs d k l then (colG (2 ^ d.toNat) k (digG l), 0) else (col0, 2)
theorem DigIs.pow {d k : Int} {l : List Int} (h : DigIs d k l) : (1 : Int) ≤ 2 ^ d.toNat ∧ (2 : Int) ^ d.toNat ≤ 16 := by
  obtain ⟨n, hn⟩ : ∃ n, d.toNat = n := ⟨_, rfl⟩
  have := h.1
  have : n = 1 ∨ n = 2 ∨ n = 3 ∨ n = 4 := by omega
  rw [hn]
  rcases this with h | h | h | h <;> subst h <;> simp
theorem DigIs.bd {d k : Int} {l : List Int} (h : DigIs d k l) : ∀ i j : Int, 0 ≤ i → i < j → j < 2 ^ d.toNat → 0 ≤ digG l i j ∧ digG l i j < 256 := fun i j h0 h1 h2 => by
  have hx := xr_bd h0 h1 h2
  have hp := h.pow
  have hl := h.2.2.1
  have := h.2.2.2.get (i := (xr i j - 1).toNat) (by omega)
  have := h.2.1
  unfold digG
  omega
theorem DigIs.ok {d k : Int} {l : List Int} (h : DigIs d k l) : (colG (2 ^ d.toNat) k (digG l)).Ok := by
  have hp := h.pow
  have := h.2.1
  exact colG_ok (by omega) (by omega) ⟨by omega, by omega⟩ h.bd
theorem digOf_ok (d k : Int) (l : List Int) : (digOf d k l).1.Ok := by
  unfold digOf
  split
  · rename_i h; exact h.ok
  · exact col0_ok
def partG (l : List Int) : Int → Int → Int := fun i j => l.getD (j - i - 1).toNat 0
def partOf (k : Int) (l : List Int) : Col × Int := if IsPart k l ∧ l.length ≤ 16 then (colG (l.length + 1) k (partG l), 0) else (col0, 2)
theorem part_in {k : Int} {l : List Int} (h : IsPart k l) : AllIn l 0 255 := fun x hx => by
  have := h.2.2.2 x hx; have := h.2.1; omega
theorem part_ok {k : Int} {l : List Int} (h : IsPart k l) (hl : l.length ≤ 16) : (colG (l.length + 1) k (partG l)).Ok := by
  have h1 := h.1; have h2 := h.2.1
  refine colG_ok (by omega) (by omega) ⟨by omega, by omega⟩ fun i j i0 i1 i2 => ?_
  have := (part_in h).get (i := (j - i - 1).toNat) (by omega)
  unfold partG
  omega
theorem partOf_ok (k : Int) (l : List Int) : (partOf k l).1.Ok := by
  unfold partOf
  split
  · rename_i h; exact part_ok h.1 h.2
  · exact col0_ok
theorem int_u64 {n : Int} {K : Int → Prop} (h0 : 0 ≤ n) (h1 : n < 18446744073709551616) (hK : K n) : QAll Try.prog (convert tI tU (.int .i64 n)) (.int .u64) K :=
  cvt (by rw [Try.underlyingTI]; rfl) Try.underlying102 (by rwa [show IntKind.u64.wrap n = n from IntWalk.u64_in n ⟨h0, by omega⟩])
end Go.Proofs.Ytkadckhealbdaaa
