/- The law FnExactKnownNumber returns true for all arguments: the program's KnownNumber is the reference's. No condition. -/
import Derived.Test.YtpfclidbebmnaaaPFnExactKnownNumberx2
namespace Go.Proofs.Ytpfclidbebmnaaa.Pure
open Go.RowKit Go.Proofs.Ytpfclidbebmnaaa.PFnExactKnownNumber Go.Proofs.YtpfclidbebmnaaaW.PrintWords Go.Proofs.YtpfclidbebmnaaaW.PrintLast Go.Proofs.YtpfclidbebmnaaaW.PrintMore
set_option maxRecDepth 100000

theorem inside : ∀ n m : Fin 17, laws_FnExactKnownNumber.f 6 ((n.val : Int) + 1) ((m.val : Int) + 1) = some true := by
  decide +kernel

theorem FnExactKnownNumber : laws_FnExactKnownNumber.Pure := by
  intro a0 a1 _ _
  refine ⟨6, ?_⟩
  by_cases h : (1 ≤ a0 ∧ a0 ≤ 17) ∧ (1 ≤ a1 ∧ a1 ≤ 17)
  · have := inside ⟨(a0 - 1).toNat, by omega⟩ ⟨(a1 - 1).toNat, by omega⟩
    simp only at this
    rwa [show (((a0 - 1).toNat : Nat) : Int) + 1 = a0 from by omega, show (((a1 - 1).toNat : Nat) : Int) + 1 = a1 from by omega] at this
  · simp only [laws_FnExactKnownNumber.f, spec_KnownNumber.f, impl_KnownNumber.f, spec_KnownNumber.j0, impl_KnownNumber.j0, impl_in.f, spec_l01In.f]
    by_cases h1 : a0 ≥ 1 <;> by_cases h2 : a0 ≤ 17 <;> by_cases h3 : a1 ≥ 1 <;> by_cases h4 : a1 ≤ 17
    · exact absurd ⟨⟨h1, h2⟩, ⟨h3, h4⟩⟩ h
    all_goals simp [h1, h2, h3, h4]

end Go.Proofs.Ytpfclidbebmnaaa.Pure
