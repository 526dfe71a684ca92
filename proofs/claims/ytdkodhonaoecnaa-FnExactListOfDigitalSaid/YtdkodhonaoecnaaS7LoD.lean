/- What ListOfDigital answers. No condition. -/
import Derived.Test.YtdkodhonaoecnaaS7Chg
namespace Go.Proofs.Ytdkodhonaoecnaa
open Go Go.RowKit Eng Mem
set_option maxRecDepth 100000
def pow2 (n : Int) : Prop := n = 2 ∨ n = 4 ∨ n = 8 ∨ n = 16
instance (n : Int) : Decidable (pow2 n) := by unfold pow2; infer_instance
def digCol (c : Col) : List Int × Int := if c.Is then (if pow2 c.n ∧ colG c.n c.k (digG (row0 c (c.n - 1).toNat)) = c then (row0 c (c.n - 1).toNat, 0) else ([], 5)) else ([], 1)
theorem pow2_get {n : Int} (h : pow2 n) : ∃ d : Nat, 1 ≤ d ∧ d ≤ 4 ∧ (2 : Int) ^ d = n := by
  rcases h with h | h | h | h
  · exact ⟨1, by omega, by omega, by rw [h]; rfl⟩
  · exact ⟨2, by omega, by omega, by rw [h]; rfl⟩
  · exact ⟨3, by omega, by omega, by rw [h]; rfl⟩
  · exact ⟨4, by omega, by omega, by rw [h]; rfl⟩
theorem pow2_of {d : Nat} (h0 : 1 ≤ d) (h1 : d ≤ 4) : pow2 (2 ^ d) ∧ (2 : Int) ^ d ≤ 16 ∧ 2 ≤ (2 : Int) ^ d := by
  have : d = 1 ∨ d = 2 ∨ d = 3 ∨ d = 4 := by omega
  rcases this with h | h | h | h <;> subst h <;> decide
theorem wand {n : Int} (h0 : 2 ≤ n) (h1 : n ≤ 17) : (IntKind.i64.wrap ((BitVec.toNat (BitVec.ofInt (IntKind.bits .i64) n &&& BitVec.ofInt (IntKind.bits .i64) (IntKind.i64.wrap (n - 1))) : Nat) : Int) != 0) = !decide (pow2 n) := by
  have : n = 2 ∨ n = 3 ∨ n = 4 ∨ n = 5 ∨ n = 6 ∨ n = 7 ∨ n = 8 ∨ n = 9 ∨ n = 10 ∨ n = 11 ∨ n = 12 ∨ n = 13 ∨ n = 14 ∨ n = 15 ∨ n = 16 ∨ n = 17 := by omega
  rcases this with h | h | h | h | h | h | h | h | h | h | h | h | h | h | h | h <;> subst h <;> decide
theorem dig_bd {l : List Int} {d : Nat} (hl : (l.length : Int) = 2 ^ d - 1) (hin : AllIn l 0 255) : ∀ i j : Int, 0 ≤ i → i < j → j < 2 ^ d → 0 ≤ digG l i j ∧ digG l i j < 256 := fun i j i0 i1 i2 => by
  have hx := xr_bd i0 i1 i2
  have := hin.get (i := (xr i j - 1).toNat) (by omega)
  unfold digG
  omega
end Go.Proofs.Ytdkodhonaoecnaa
