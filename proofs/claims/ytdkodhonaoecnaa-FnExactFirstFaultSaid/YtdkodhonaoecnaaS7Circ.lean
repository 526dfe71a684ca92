/- What CircularOf and FirstFault answer. No condition. -/
import Derived.Test.YtdkodhonaoecnaaS7Sq
import Derived.Test.YtdkodhonaoecnaaS8Cnt
namespace Go.Proofs.Ytdkodhonaoecnaa
open Go Go.RowKit Eng Mem
set_option maxRecDepth 100000
def CircIs (n k : Int) (l : List Int) : Prop := (2 ≤ n ∧ n ≤ 17) ∧ (1 ≤ k ∧ k ≤ 4) ∧ (l.length : Int) = n / 2 ∧ AllIn l 0 (k - 1)
instance (n k : Int) (l : List Int) : Decidable (CircIs n k l) := by unfold CircIs; infer_instance
theorem circG_bd {l : List Int} {n hi : Int} (h2 : 0 ≤ n) (hl : (l.length : Int) = n / 2) (hin : AllIn l 0 hi) (hh : hi < 256) : ∀ i j : Int, 0 ≤ i → i < j → j < n → 0 ≤ circG l n i j ∧ circG l n i j < 256 := fun i j i0 i1 i2 => by
  have hd := dist_bd i0 i1 i2
  have := hin.get (i := (dist n i j - 1).toNat) (by omega)
  unfold circG
  omega
theorem CircIs.ok {n k : Int} {l : List Int} (h : CircIs n k l) : (colG n k (circG l n)).Ok := by
  have h1 := h.1; have h2 := h.2.1
  exact colG_ok (by omega) (by omega) ⟨by omega, by omega⟩ (circG_bd (by omega) h.2.2.1 h.2.2.2 (by omega))
def circOf (n k : Int) (l : List Int) : Col × Int := if CircIs n k l then (colG n k (circG l n), 0) else (col0, 2)
theorem circOf_ok (n k : Int) (l : List Int) : (circOf n k l).1.Ok := by
  unfold circOf; split
  · rename_i h; exact h.ok
  · exact col0_ok
def firstF (k : Int) (l : List Int) (kind : Int) : List Int × Int := if IsPart k l ∧ 0 ≤ kind ∧ kind ≤ 2 then (match faR l kind 0 l.length with | [] => ([], 4) | t :: _ => (t, 0)) else ([], 2)
end Go.Proofs.Ytdkodhonaoecnaa
