/- Neighbours and degrees, as lists and as digits in base 2. No condition. -/
import Derived.Test.YtkadckhealbdaaaS5Made
namespace Go.Proofs.Ytkadckhealbdaaa
open Go Go.RowKit Eng Mem
set_option maxRecDepth 100000
/-- The colour of the edge of two points. -/
def colAt (x : Col) (i j : Int) : Int := x.e (num i j).toNat
def joinB (x : Col) (i j c : Int) : Bool := decide (i ≠ j ∧ colAt x i j = c)
/-- The numbers below n of which p is so. -/
def sel (p : Nat → Bool) (n : Nat) : List Int := ((List.range n).filter p).map fun i : Nat => (i : Int)
theorem sel_succ (p : Nat → Bool) (n : Nat) : sel p (n + 1) = sel p n ++ if p n then [(n : Int)] else [] := by
  unfold sel
  rw [List.range_succ, List.filter_append, List.map_append]
  congr 1
  by_cases h : p n
  · simp [h]
  · simp [h]
theorem sel_len_le (p : Nat → Bool) (n : Nat) : (sel p n).length ≤ n := by
  unfold sel
  rw [List.length_map]
  exact Nat.le_trans (List.length_filter_le _ _) (by simp)
theorem sel_len (p : Nat → Bool) (n : Nat) : (sel p n).length = (List.range n).countP p := by
  unfold sel; rw [List.length_map, List.countP_eq_length_filter]
/-- The number with the digits p j in base 2. -/
def bitsN (p : Nat → Bool) : Nat → Nat
  | 0 => 0
  | m + 1 => bitsN p m + if p m then 2 ^ m else 0
theorem bitsN_lt (p : Nat → Bool) (m : Nat) : bitsN p m < 2 ^ m := by
  induction m with
  | zero => simp [bitsN]
  | succ m ih => rw [bitsN, Nat.pow_succ]; split <;> omega
theorem bitsN_congr {p q : Nat → Bool} {m : Nat} (h : ∀ j, j < m → p j = q j) : bitsN p m = bitsN q m := by
  induction m with
  | zero => rfl
  | succ m ih => rw [bitsN, bitsN, ih fun j hj => h j (by omega), h m (by omega)]
theorem bitsN_low (p : Nat → Bool) (m : Nat) : bitsN p (m + 1) = (if p 0 then 1 else 0) + 2 * bitsN (fun j => p (j + 1)) m := by
  induction m with
  | zero => simp [bitsN]
  | succ m ih =>
    rw [bitsN, ih, bitsN, Nat.mul_add, ← Nat.add_assoc]
    congr 1
    split <;> simp [Nat.pow_succ, Nat.mul_comm]
theorem bitsN_or {s m : Nat} (h : s < 2 ^ m) : s ||| 2 ^ m = s + 2 ^ m := by
  have := Nat.two_pow_add_eq_or_of_lt h 1
  rw [Nat.mul_one, Nat.or_comm] at this
  omega
theorem testBit_bitsN (p : Nat → Bool) (m j : Nat) : (bitsN p m).testBit j = (decide (j < m) && p j) := by
  induction m with
  | zero => simp [bitsN]
  | succ m ih =>
    rw [bitsN]
    by_cases hp : p m
    · rw [if_pos hp, ← bitsN_or (bitsN_lt p m), Nat.testBit_or, ih, Nat.testBit_two_pow]
      by_cases hj : j = m
      · subst hj; simp [hp]
      · have : decide (m = j) = false := decide_eq_false (Ne.symm hj)
        rw [this, Bool.or_false]
        congr 1
        simp; omega
    · rw [if_neg hp, Nat.add_zero, ih]
      by_cases hj : j = m
      · subst hj; simp [hp]
      · congr 1
        simp; omega
theorem bits_ext {s t n : Nat} (hs : s < 2 ^ n) (ht : t < 2 ^ n) (h : ∀ j, j < n → s.testBit j = t.testBit j) : s = t := by
  apply Nat.eq_of_testBit_eq
  intro j
  by_cases hj : j < n
  · exact h j hj
  · rw [Nat.testBit_lt_two_pow (Nat.lt_of_lt_of_le hs (Nat.pow_le_pow_right (by omega) (by omega))), Nat.testBit_lt_two_pow (Nat.lt_of_lt_of_le ht (Nat.pow_le_pow_right (by omega) (by omega)))]
theorem bitsN_of {s n : Nat} (hs : s < 2 ^ n) : bitsN s.testBit n = s :=
  bits_ext (bitsN_lt _ _) hs fun j hj => by rw [testBit_bitsN]; simp [hj]
/-- How many digits are 1. -/
def onesN : Nat → Nat
  | 0 => 0
  | n + 1 => (n + 1) % 2 + onesN ((n + 1) / 2)
theorem onesN_step (n : Nat) : onesN n = n % 2 + onesN (n / 2) := by
  cases n with
  | zero => simp [onesN]
  | succ n => rw [onesN]
theorem onesN_bits (p : Nat → Bool) (m : Nat) : onesN (bitsN p m) = (List.range m).countP p := by
  induction m generalizing p with
  | zero => simp [bitsN, onesN]
  | succ m ih =>
    rw [onesN_step, bitsN_low, List.range_succ_eq_map, List.countP_cons, List.countP_map]
    have h1 : ((if p 0 = true then 1 else 0) + 2 * bitsN (fun j => p (j + 1)) m) % 2 = if p 0 = true then 1 else 0 := by split <;> omega
    have h2 : ((if p 0 = true then 1 else 0) + 2 * bitsN (fun j => p (j + 1)) m) / 2 = bitsN (fun j => p (j + 1)) m := by split <;> omega
    rw [h1, h2, ih, Nat.add_comm]
    rfl
theorem onesN_le {s m : Nat} (hs : s < 2 ^ m) : onesN s ≤ m := by
  rw [← bitsN_of hs, onesN_bits]
  exact Nat.le_trans List.countP_le_length (by simp)
/-- How many neighbours a point has in a colour. -/
def degN (x : Col) (i c : Int) : Nat := (List.range x.n.toNat).countP fun j : Nat => joinB x i j c
theorem degN_le (x : Col) (i c : Int) : degN x i c ≤ x.n.toNat := Nat.le_trans List.countP_le_length (by simp)
theorem wor {a b : Int} (h0 : 0 ≤ a) (h1 : a < 9223372036854775808) (k0 : 0 ≤ b) (k1 : b < 9223372036854775808) : IntKind.i64.wrap ((BitVec.toNat (BitVec.ofInt (IntKind.bits .i64) a ||| BitVec.ofInt (IntKind.bits .i64) b) : Nat) : Int) = ((a.toNat ||| b.toNat : Nat) : Int) := by
  have e1 : BitVec.toNat (BitVec.ofInt 64 a) = a.toNat := by
    rw [BitVec.toNat_ofInt]; omega
  have e2 : BitVec.toNat (BitVec.ofInt 64 b) = b.toNat := by
    rw [BitVec.toNat_ofInt]; omega
  have hx : a.toNat ||| b.toNat < 2 ^ 63 := Nat.or_lt_two_pow (by omega) (by omega)
  have : BitVec.toNat (BitVec.ofInt (IntKind.bits .i64) a ||| BitVec.ofInt (IntKind.bits .i64) b) = a.toNat ||| b.toNat := by
    rw [BitVec.toNat_or]
    show BitVec.toNat (BitVec.ofInt 64 a) ||| BitVec.toNat (BitVec.ofInt 64 b) = _
    rw [e1, e2]
  rw [this, wrap_small (by omega) (by omega)]
theorem wand {a b : Int} (h0 : 0 ≤ a) (h1 : a < 9223372036854775808) (k0 : 0 ≤ b) (k1 : b < 9223372036854775808) : IntKind.i64.wrap ((BitVec.toNat (BitVec.ofInt (IntKind.bits .i64) a &&& BitVec.ofInt (IntKind.bits .i64) b) : Nat) : Int) = ((a.toNat &&& b.toNat : Nat) : Int) := by
  have e1 : BitVec.toNat (BitVec.ofInt 64 a) = a.toNat := by
    rw [BitVec.toNat_ofInt]; omega
  have e2 : BitVec.toNat (BitVec.ofInt 64 b) = b.toNat := by
    rw [BitVec.toNat_ofInt]; omega
  have hx : a.toNat &&& b.toNat ≤ a.toNat := Nat.and_le_left
  have : BitVec.toNat (BitVec.ofInt (IntKind.bits .i64) a &&& BitVec.ofInt (IntKind.bits .i64) b) = a.toNat &&& b.toNat := by
    rw [BitVec.toNat_and]
    show BitVec.toNat (BitVec.ofInt 64 a) &&& BitVec.toNat (BitVec.ofInt 64 b) = _
    rw [e1, e2]
  rw [this, wrap_small (by omega) (by omega)]
end Go.Proofs.Ytkadckhealbdaaa
