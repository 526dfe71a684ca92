/- What the functions of lists of numbers answer, as plain statements. No condition. -/
import Derived.Test.YtkadckhealbdaaaS2Sl
namespace Go.Proofs.Ytkadckhealbdaaa
open Go Go.RowKit Eng Mem
/-- All of l lie from lo to hi. -/
def AllIn (l : List Int) (lo hi : Int) : Prop := ∀ x ∈ l, lo ≤ x ∧ x ≤ hi
instance (l : List Int) (lo hi : Int) : Decidable (AllIn l lo hi) := by unfold AllIn; infer_instance
theorem AllIn.get {l : List Int} {lo hi : Int} (h : AllIn l lo hi) {i : Nat} (hi' : i < l.length) : lo ≤ l.getD i 0 ∧ l.getD i 0 ≤ hi := by
  have := h l[i] (List.getElem_mem hi')
  simpa [List.getD, hi'] using this
theorem allIn_of {l : List Int} {lo hi : Int} (h : ∀ i : Nat, i < l.length → lo ≤ l.getD i 0 ∧ l.getD i 0 ≤ hi) : AllIn l lo hi := by
  intro x hx
  obtain ⟨i, hi, rfl⟩ := List.getElem_of_mem hx
  have := h i hi
  simpa [List.getD, hi] using this
/-- A part: k colours, at most forty numbers, each less than k. -/
def IsPart (k : Int) (l : List Int) : Prop := 1 ≤ k ∧ k ≤ 3 ∧ l.length ≤ 40 ∧ AllIn l 0 (k - 1)
instance (k : Int) (l : List Int) : Decidable (IsPart k l) := by unfold IsPart; infer_instance
def Sizes (n k : Int) : Prop := 1 ≤ n ∧ n ≤ 17 ∧ 1 ≤ k ∧ k ≤ 4
instance (n k : Int) : Decidable (Sizes n k) := by unfold Sizes; infer_instance
end Go.Proofs.Ytkadckhealbdaaa
