/- The law FnExactBinomialBound returns true for all arguments: the program's BinomialBound is the reference's. No condition. -/
import Derived.Test.YtpfclidbebmnaaaPFnExactBinomialBoundx1
namespace Go.Proofs.Ytpfclidbebmnaaa.Pure
open Go.RowKit Go.Proofs.Ytpfclidbebmnaaa.PFnExactBinomialBound Go.Proofs.YtpfclidbebmnaaaW.PrintWords Go.Proofs.YtpfclidbebmnaaaW.PrintLast Go.Proofs.YtpfclidbebmnaaaW.PrintMore
set_option maxRecDepth 100000

theorem inside : ∀ n m : Fin 16, laws_FnExactBinomialBound.f 40 ((n.val : Int) + 1) ((m.val : Int) + 1) = some true := by
  decide +kernel

theorem FnExactBinomialBound : laws_FnExactBinomialBound.Pure := by
  intro a0 a1 _ _
  refine ⟨40, ?_⟩
  by_cases h : (1 ≤ a0 ∧ a0 ≤ 16) ∧ (1 ≤ a1 ∧ a1 ≤ 16)
  · have := inside ⟨(a0 - 1).toNat, by omega⟩ ⟨(a1 - 1).toNat, by omega⟩
    simp only at this
    rwa [show (((a0 - 1).toNat : Nat) : Int) + 1 = a0 from by omega, show (((a1 - 1).toNat : Nat) : Int) + 1 = a1 from by omega] at this
  · simp only [laws_FnExactBinomialBound.f, spec_BinomialBound.f, impl_BinomialBound.f, impl_in.f, spec_l01In.f]
    by_cases h1 : a0 ≥ 1 <;> by_cases h2 : a0 ≤ 16 <;> by_cases h3 : a1 ≥ 1 <;> by_cases h4 : a1 ≤ 16
    · exact absurd ⟨⟨h1, h2⟩, ⟨h3, h4⟩⟩ h
    all_goals simp [h1, h2, h3, h4]

end Go.Proofs.Ytpfclidbebmnaaa.Pure
