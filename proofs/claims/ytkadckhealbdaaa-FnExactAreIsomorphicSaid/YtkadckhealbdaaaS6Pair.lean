/- Colourings by a function of two points. No condition. -/
import Derived.Test.YtkadckhealbdaaaS5Made
namespace Go.Proofs.Ytkadckhealbdaaa
open Go Go.RowKit Eng Mem
set_option maxRecDepth 100000
/-- The greater point of an edge, and the less one. -/
def pj (e : Nat) : Int := (((List.range 17).filter fun j : Nat => decide (edgesOf j ≤ e)).length : Int) - 1
def pi (e : Nat) : Int := e - edgesOf (pj e)
theorem pair_all : ∀ e : Fin 136, 0 ≤ pi e ∧ pi e < pj e ∧ pj e ≤ 16 := by decide +kernel
theorem pair_back : ∀ j : Fin 17, ∀ i : Fin 17, i < j → pi (enum (i.val : Int) (j.val : Int)).toNat = (i.val : Int) ∧ pj (enum (i.val : Int) (j.val : Int)).toNat = (j.val : Int) := by decide +kernel
theorem pair_enum {i j : Int} (h0 : 0 ≤ i) (h1 : i < j) (h2 : j ≤ 16) : pi (enum i j).toNat = i ∧ pj (enum i j).toNat = j := by
  have := pair_back ⟨j.toNat, by omega⟩ ⟨i.toNat, by omega⟩ (by show i.toNat < j.toNat; omega)
  simpa [Int.toNat_of_nonneg h0, Int.toNat_of_nonneg (Int.le_trans h0 (Int.le_of_lt h1))] using this
theorem pair_lt {n : Int} {e : Nat} (_h0 : 0 ≤ n) (h1 : n ≤ 17) (he : e < (edgesOf n).toNat) : 0 ≤ pi e ∧ pi e < pj e ∧ pj e < n := by
  have hb := edges_bd _h0 h1
  have h := pair_all ⟨e, by omega⟩
  refine ⟨h.1, h.2.1, ?_⟩
  rcases Int.lt_or_le (pj e) n with hl | hl
  · exact hl
  · have := edgesOf_mono _h0 hl
    have hd : pi e = e - edgesOf (pj e) := rfl
    have := h.1
    simp only at this
    omega
def colG (n k : Int) (g : Int → Int → Int) : Col := colF n k fun e => g (pi e) (pj e)
theorem colG_ok {n k : Int} {g : Int → Int → Int} (n0 : 0 ≤ n) (n1 : n ≤ 17) (hk : I64 k) (h : ∀ i j : Int, 0 ≤ i → i < j → j < n → 0 ≤ g i j ∧ g i j < 256) : (colG n k g).Ok :=
  colF_ok ⟨by omega, by omega⟩ hk fun e he => by
    have := pair_lt n0 n1 he
    exact h _ _ this.1 this.2.1 this.2.2
theorem colG_congr {n k : Int} {g g' : Int → Int → Int} (n0 : 0 ≤ n) (n1 : n ≤ 17) (h : ∀ i j : Int, 0 ≤ i → i < j → j < n → g i j = g' i j) : colG n k g = colG n k g' :=
  colF_congr fun e he => by
    have := pair_lt n0 n1 he
    exact h _ _ this.1 this.2.1 this.2.2
theorem esG_set {g : Int → Int → Int} {i j : Int} (h0 : 0 ≤ i) (h1 : i < j) (h2 : j ≤ 16) : (esF (fun e => g (pi e) (pj e)) (edgesOf j + i).toNat).set (num i j).toNat (g i j) = esF (fun e => g (pi e) (pj e)) (edgesOf j + (i + 1)).toNat := by
  have hn := enum_lt h0 h1 (n := 17) (by omega) (by omega)
  rw [show edgesOf 17 = 136 from by decide] at hn
  have hp := pair_enum h0 h1 h2
  have he : (enum i j).toNat = (edgesOf j + i).toNat := rfl
  have := esF_set (fun e => g (pi e) (pj e)) (m := (enum i j).toNat) (by omega)
  simp only [hp.1, hp.2] at this
  have hee := enum_eq i j
  rw [num_of h1, show (edgesOf j + (i + 1)).toNat = (enum i j).toNat + 1 from by omega, ← he]
  exact this
/-- The distance of two points on a circle. -/
def dist (n i j : Int) : Int := if j - i ≤ n - (j - i) then j - i else n - (j - i)
theorem dist_bd {n i j : Int} (h0 : 0 ≤ i) (h1 : i < j) (h2 : j < n) : 1 ≤ dist n i j ∧ dist n i j ≤ n / 2 := by unfold dist; split <;> omega
/-- Exclusive or. -/
def xr (i j : Int) : Int := ((i.toNat ^^^ j.toNat : Nat) : Int)
theorem wxor {i j : Int} (h0 : 0 ≤ i) (h1 : i < 4294967296) (k0 : 0 ≤ j) (k1 : j < 4294967296) : IntKind.i64.wrap ((BitVec.toNat (BitVec.ofInt (IntKind.bits .i64) i ^^^ BitVec.ofInt (IntKind.bits .i64) j) : Nat) : Int) = xr i j := by
  have e1 : BitVec.toNat (BitVec.ofInt 64 i) = i.toNat := by
    rw [BitVec.toNat_ofInt]; omega
  have e2 : BitVec.toNat (BitVec.ofInt 64 j) = j.toNat := by
    rw [BitVec.toNat_ofInt]; omega
  have hx : i.toNat ^^^ j.toNat < 2 ^ 32 := Nat.xor_lt_two_pow (by omega) (by omega)
  have : BitVec.toNat (BitVec.ofInt (IntKind.bits .i64) i ^^^ BitVec.ofInt (IntKind.bits .i64) j) = i.toNat ^^^ j.toNat := by
    rw [BitVec.toNat_xor]
    show BitVec.toNat (BitVec.ofInt 64 i) ^^^ BitVec.toNat (BitVec.ofInt 64 j) = _
    rw [e1, e2]
  rw [this, wrap_small (by omega) (by omega)]
  rfl
theorem xr_bd {i j : Int} {d : Nat} (h0 : 0 ≤ i) (h1 : i < j) (h2 : j < 2 ^ d) : 1 ≤ xr i j ∧ xr i j < 2 ^ d := by
  have a : i.toNat ^^^ j.toNat < 2 ^ d := Nat.xor_lt_two_pow (by have : ((2 : Int) ^ d) = ((2 ^ d : Nat) : Int) := by simp
                                                                 omega) (by have : ((2 : Int) ^ d) = ((2 ^ d : Nat) : Int) := by simp
                                                                            omega)
  have b : i.toNat ^^^ j.toNat ≠ 0 := fun h => by
    have e : i.toNat = j.toNat := by
      have : (i.toNat ^^^ j.toNat) ^^^ j.toNat = i.toNat := by rw [Nat.xor_assoc, Nat.xor_self, Nat.xor_zero]
      rw [h, Nat.zero_xor] at this
      exact this.symm
    omega
  unfold xr
  have : ((2 : Int) ^ d) = ((2 ^ d : Nat) : Int) := by simp
  omega
theorem slI_cells {w : World} {v : Value} {l : List Int} (h : SlI w v l) : v.cells = #[v] := by
  obtain ⟨a, n, c, rfl, _⟩ := h.sl
  rfl
end Go.Proofs.Ytkadckhealbdaaa
