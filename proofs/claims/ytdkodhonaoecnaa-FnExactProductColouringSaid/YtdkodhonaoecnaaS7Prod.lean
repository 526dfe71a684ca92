/- The product of two colourings. No condition. -/
import Derived.Test.YtdkodhonaoecnaaS6Tri
namespace Go.Proofs.Ytdkodhonaoecnaa
open Go Go.RowKit Eng Mem
set_option maxRecDepth 100000
def prodG (x y : Col) : Int → Int → Int := fun i j => if i / y.n ≠ j / y.n then x.e (num (i / y.n) (j / y.n)).toNat else x.k + y.e (num (i % y.n) (j % y.n)).toNat
def ProdIs (x y : Col) : Prop := x.n * y.n ≤ 17 ∧ x.k + y.k ≤ 4
instance (x y : Col) : Decidable (ProdIs x y) := by unfold ProdIs; infer_instance
theorem Col.Is.e_lt {c : Col} (h : c.Is) {i j : Int} (i0 : 0 ≤ i) (i1 : i < c.n) (j0 : 0 ≤ j) (j1 : j < c.n) (hne : i ≠ j) : c.e (num i j).toNat < c.k := by
  have hn := num_lt i0 i1 j0 j1 h.2.1 hne
  have := edges_bd (n := c.n) (by have := h.1; omega) h.2.1
  have := h.2.2.2.2 (num i j).toNat (by omega)
  rwa [if_pos (by omega)] at this
/-- Where the points of the product lie. -/
theorem prod_at {n m i j : Int} (hm : 1 ≤ m) (i0 : 0 ≤ i) (i1 : i < j) (j1 : j < n * m) : (0 ≤ i / m ∧ i / m < n) ∧ (0 ≤ j / m ∧ j / m < n) ∧ (0 ≤ i % m ∧ i % m < m) ∧ (0 ≤ j % m ∧ j % m < m) ∧ (i / m = j / m → i % m ≠ j % m) := by
  refine ⟨⟨Int.ediv_nonneg i0 (by omega), Int.ediv_lt_of_lt_mul (by omega) (by omega)⟩, ⟨Int.ediv_nonneg (by omega) (by omega), Int.ediv_lt_of_lt_mul (by omega) j1⟩, ⟨Int.emod_nonneg _ (by omega), Int.emod_lt_of_pos _ (by omega)⟩, ⟨Int.emod_nonneg _ (by omega), Int.emod_lt_of_pos _ (by omega)⟩, fun h h' => ?_⟩
  have a := Int.mul_ediv_add_emod i m
  have b := Int.mul_ediv_add_emod j m
  rw [h, h'] at a
  omega
theorem prod_bd {x y : Col} (hx : x.Is) (hy : y.Is) (ox : x.Ok) (oy : y.Ok) (h : ProdIs x y) : ∀ i j : Int, 0 ≤ i → i < j → j < x.n * y.n → 0 ≤ prodG x y i j ∧ prodG x y i j < 256 := fun i j i0 i1 i2 => by
  have hp := prod_at (n := x.n) (m := y.n) hy.1 i0 i1 i2
  have k0 := hx.2.2.1; have k1 := h.2
  unfold prodG
  split
  · exact ox.e_bd _
  · rename_i hne
    have hb := oy.e_bd (num (i % y.n) (j % y.n)).toNat
    have := hy.e_lt hp.2.2.1.1 hp.2.2.1.2 hp.2.2.2.1.1 hp.2.2.2.1.2 (hp.2.2.2.2 (by simpa using hne))
    omega
theorem prod_ok {x y : Col} (hx : x.Is) (hy : y.Is) (ox : x.Ok) (oy : y.Ok) (h : ProdIs x y) : (colG (x.n * y.n) (x.k + y.k) (prodG x y)).Ok := by
  have := hx.2.2.1; have := hy.2.2.1; have := h.2
  exact colG_ok (Int.mul_nonneg (by have := hx.1; omega) (by have := hy.1; omega)) h.1 ⟨by omega, by omega⟩ (prod_bd hx hy ox oy h)
def prodOf (x y : Col) : Col × Int := if x.Is ∧ y.Is then (if ProdIs x y then (colG (x.n * y.n) (x.k + y.k) (prodG x y), 0) else (col0, 3)) else (col0, 1)
theorem prodOf_ok {x y : Col} (ox : x.Ok) (oy : y.Ok) : (prodOf x y).1.Ok := by
  unfold prodOf
  split
  · rename_i h
    split
    · rename_i h'; exact prod_ok h.1 h.2 ox oy h'
    · exact col0_ok
  · exact col0_ok
end Go.Proofs.Ytdkodhonaoecnaa
