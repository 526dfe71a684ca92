/- Digits in base 2, as the machine has them. No condition. -/
import Derived.Test.YtkadckhealbdaaaS8Deg
import Derived.Test.YtkadckhealbdaaaS7Dig
namespace Go.Proofs.Ytkadckhealbdaaa
open Go Go.RowKit Eng Mem
set_option maxRecDepth 100000
theorem wshl' {j : Int} (h0 : 0 ≤ j) (h1 : j < 62) : IntKind.i64.wrap (1 * 2 ^ min (Int.toNat j) 64) = ((2 ^ j.toNat : Nat) : Int) := by
  have e : ((2 : Int) ^ j.toNat) = ((2 ^ j.toNat : Nat) : Int) := by simp
  have : 2 ^ j.toNat ≤ 2 ^ 61 := Nat.pow_le_pow_right (by omega) (by omega)
  rw [Nat.min_eq_left (by omega), Int.one_mul, e]
  generalize 2 ^ j.toNat = t at this
  exact wrap_small (by omega) (by omega)
theorem wshr {u j : Nat} (hu : u < 2 ^ 62) (hj : j < 62) : IntKind.i64.wrap ((BitVec.toNat (BitVec.ofInt (IntKind.bits .i64) (Int.fdiv (u : Int) (2 ^ min (Int.toNat (j : Int)) 64)) &&& BitVec.ofInt (IntKind.bits .i64) 1) : Nat) : Int) = ((u / 2 ^ j % 2 : Nat) : Int) := by
  have e : ((2 : Int) ^ j) = ((2 ^ j : Nat) : Int) := by simp
  have hp : 0 < 2 ^ j := Nat.pow_pos (by omega)
  have hd : Int.fdiv (u : Int) ((2 ^ j : Nat) : Int) = ((u / 2 ^ j : Nat) : Int) := by
    rw [Int.fdiv_eq_ediv_of_nonneg _ (by omega)]
    exact (Int.natCast_ediv u (2 ^ j)).symm
  have hle : u / 2 ^ j ≤ u := Nat.div_le_self _ _
  rw [Int.toNat_natCast, Nat.min_eq_left (by omega), e, hd]
  generalize u / 2 ^ j = q at hle ⊢
  rw [wand (by omega) (by omega) (by omega) (by omega), Int.toNat_natCast]
  congr 1
  exact Nat.and_one_is_mod q
theorem bit_iff (u j : Nat) : (((u / 2 ^ j % 2 : Nat) : Int) == 1) = u.testBit j := by
  rw [Nat.testBit_eq_decide_div_mod_eq]
  have : u / 2 ^ j % 2 < 2 := Nat.mod_lt _ (by omega)
  generalize u / 2 ^ j % 2 = q at this ⊢
  have : q = 0 ∨ q = 1 := by omega
  rcases this with h | h <;> subst h <;> decide
theorem bit_iff0 (u j : Nat) : (((u / 2 ^ j % 2 : Nat) : Int) == 0) = !u.testBit j := by
  rw [Nat.testBit_eq_decide_div_mod_eq]
  have : u / 2 ^ j % 2 < 2 := Nat.mod_lt _ (by omega)
  generalize u / 2 ^ j % 2 = q at this ⊢
  have : q = 0 ∨ q = 1 := by omega
  rcases this with h | h <;> subst h <;> decide
theorem wbor {u j : Nat} (hu : u < 2 ^ 62) (hj : j < 62) : IntKind.i64.wrap ((BitVec.toNat (BitVec.ofInt (IntKind.bits .i64) (u : Int) ||| BitVec.ofInt (IntKind.bits .i64) (IntKind.i64.wrap (1 * 2 ^ min (Int.toNat (j : Int)) 64))) : Nat) : Int) = ((u ||| 2 ^ j : Nat) : Int) := by
  have hp : 2 ^ j ≤ 2 ^ 61 := Nat.pow_le_pow_right (by omega) (by omega)
  rw [wshl' (by omega) (by omega), Int.toNat_natCast]
  generalize 2 ^ j = T at hp ⊢
  rw [wor (by omega) (by omega) (by omega) (by omega), Int.toNat_natCast, Int.toNat_natCast]
end Go.Proofs.Ytkadckhealbdaaa
