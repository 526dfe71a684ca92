/- The law FnExactTriangleBound returns true for all arguments: the program's TriangleBound is the reference's. No condition. -/
import Derived.Test.YtpfclidbebmnaaaPFnExactTriangleBoundx1
namespace Go.Proofs.Ytpfclidbebmnaaa.Pure
open Go.RowKit Go.Proofs.Ytpfclidbebmnaaa.PFnExactTriangleBound Go.Proofs.YtpfclidbebmnaaaW.PrintWords Go.Proofs.YtpfclidbebmnaaaW.PrintLast Go.Proofs.YtpfclidbebmnaaaW.PrintMore
set_option maxRecDepth 100000

theorem inside : ∀ n : Fin 10, laws_FnExactTriangleBound.f 20 ((n.val : Int) + 1) = some true := by
  decide +kernel

theorem FnExactTriangleBound : laws_FnExactTriangleBound.Pure := by
  intro a0 _
  refine ⟨20, ?_⟩
  by_cases h : 1 ≤ a0 ∧ a0 ≤ 10
  · have := inside ⟨(a0 - 1).toNat, by omega⟩
    simp only at this
    rwa [show (((a0 - 1).toNat : Nat) : Int) + 1 = a0 from by omega] at this
  · simp only [laws_FnExactTriangleBound.f, spec_TriangleBound.f, impl_TriangleBound.f, impl_in.f, spec_l01In.f]
    by_cases h1 : a0 ≥ 1 <;> by_cases h2 : a0 ≤ 10
    · exact absurd ⟨h1, h2⟩ h
    all_goals simp [h1, h2]

end Go.Proofs.Ytpfclidbebmnaaa.Pure
