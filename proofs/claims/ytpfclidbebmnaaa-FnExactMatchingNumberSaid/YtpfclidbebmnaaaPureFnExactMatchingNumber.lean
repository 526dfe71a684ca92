/- The law FnExactMatchingNumber returns true for all arguments: the program's MatchingNumber is the reference's. No condition. -/
import Derived.Test.YtpfclidbebmnaaaPFnExactMatchingNumberx1
namespace Go.Proofs.Ytpfclidbebmnaaa.Pure
open Go.RowKit Go.Proofs.Ytpfclidbebmnaaa.PFnExactMatchingNumber Go.Proofs.YtpfclidbebmnaaaW.PrintWords Go.Proofs.YtpfclidbebmnaaaW.PrintLast Go.Proofs.YtpfclidbebmnaaaW.PrintMore
set_option maxRecDepth 100000

theorem FnExactMatchingNumber : laws_FnExactMatchingNumber.Pure := by
  intro a0 a1 _ _
  simp only [laws_FnExactMatchingNumber.f, spec_MatchingNumber.f, impl_MatchingNumber.f, impl_areThousand.f, impl_in.f, spec_l01In.f]
  by_cases h1 : a0 ≥ 1 <;> by_cases h2 : a0 ≤ 1000 <;> by_cases h3 : a1 ≥ 1 <;> by_cases h4 : a1 ≤ 1000 <;> simp [h1, h2, h3, h4]

end Go.Proofs.Ytpfclidbebmnaaa.Pure
