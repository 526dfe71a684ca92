/- What CountFree answers. No condition. -/
import Derived.Test.YtdkodhonaoecnaaS8Free
namespace Go.Proofs.Ytdkodhonaoecnaa
open Go Go.RowKit Eng Mem
def countFree (n k kind : Int) : Int × Int := if (0 ≤ n ∧ n ≤ 12) ∧ (1 ≤ k ∧ k ≤ 3) ∧ 0 ≤ kind ∧ kind ≤ 2 then (cntFree k kind n.toNat n.toNat [], 0) else (0, 2)
theorem isPart_nil (k : Int) : IsPart k [] ↔ 1 ≤ k ∧ k ≤ 3 := by
  unfold IsPart AllIn
  constructor
  · rintro ⟨h1, h2, _⟩; exact ⟨h1, h2⟩
  · rintro ⟨h1, h2⟩; exact ⟨h1, h2, by simp, fun x hx => by cases hx⟩
theorem pow3_12 {f : Nat} (h : f ≤ 12) : 3 ^ f ≤ 531441 := by
  have := Nat.pow_le_pow_right (n := 3) (by omega) h
  simpa using this
theorem sum_take_succ (m : List Nat) (i : Nat) (h : i < m.length) : (m.take (i + 1)).sum = (m.take i).sum + m[i] := by
  rw [List.take_succ_eq_append_getElem h, List.sum_append]
  simp
end Go.Proofs.Ytdkodhonaoecnaa
