/- The law FnExactStarNumber returns true for all arguments: the program's StarNumber is the reference's. No condition. -/
import Derived.Test.YtpfclidbebmnaaaPFnExactStarNumberx1
namespace Go.Proofs.Ytpfclidbebmnaaa.Pure
open Go.RowKit Go.Proofs.Ytpfclidbebmnaaa.PFnExactStarNumber Go.Proofs.YtpfclidbebmnaaaW.PrintWords Go.Proofs.YtpfclidbebmnaaaW.PrintLast Go.Proofs.YtpfclidbebmnaaaW.PrintMore
set_option maxRecDepth 100000

theorem FnExactStarNumber : laws_FnExactStarNumber.Pure := by
  intro a0 a1 _ _
  refine ⟨1, ?_⟩
  simp only [laws_FnExactStarNumber.f, spec_StarNumber.f, spec_StarNumber.j0, impl_StarNumber.f, impl_areThousand.f, impl_in.f, spec_l01In.f]
  by_cases h1 : a0 ≥ 1 <;> by_cases h2 : a0 ≤ 1000 <;> by_cases h3 : a1 ≥ 1 <;> by_cases h4 : a1 ≤ 1000 <;> by_cases h5 : Int.tmod a0 2 = 0 <;> by_cases h6 : Int.tmod a1 2 = 0 <;> simp [h1, h2, h3, h4, h5, h6]

end Go.Proofs.Ytpfclidbebmnaaa.Pure
