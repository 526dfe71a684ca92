/- The law FnExactCountingBound returns true for all arguments: the program's CountingBound is the reference's. No condition. -/
import Derived.Test.YtpfclidbebmnaaaPFnExactCountingBoundx1
namespace Go.Proofs.Ytpfclidbebmnaaa.Pure
open Go.RowKit Go.Proofs.Ytpfclidbebmnaaa.PFnExactCountingBound Go.Proofs.YtpfclidbebmnaaaW.PrintWords Go.Proofs.YtpfclidbebmnaaaW.PrintLast Go.Proofs.YtpfclidbebmnaaaW.PrintMore
set_option maxRecDepth 100000

theorem inside : ∀ n : Fin 9, laws_FnExactCountingBound.f 400 ((n.val : Int) + 2) = some true := by
  decide +kernel

theorem FnExactCountingBound : laws_FnExactCountingBound.Pure := by
  intro a0 _
  refine ⟨400, ?_⟩
  by_cases h : 2 ≤ a0 ∧ a0 ≤ 10
  · have := inside ⟨(a0 - 2).toNat, by omega⟩
    simp only at this
    rwa [show (((a0 - 2).toNat : Nat) : Int) + 2 = a0 from by omega] at this
  · simp only [laws_FnExactCountingBound.f, spec_CountingBound.f, impl_CountingBound.f, impl_in.f, spec_l01In.f]
    by_cases h1 : a0 ≥ 2 <;> by_cases h2 : a0 ≤ 10
    · exact absurd ⟨h1, h2⟩ h
    all_goals simp [h1, h2]

end Go.Proofs.Ytpfclidbebmnaaa.Pure
