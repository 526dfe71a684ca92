/- The law FnExactPathNumber returns true for all arguments: the program's PathNumber is the reference's. No condition. -/
import Derived.Test.YtpfclidbebmnaaaPFnExactPathNumberx1
namespace Go.Proofs.Ytpfclidbebmnaaa.Pure
open Go.RowKit Go.Proofs.Ytpfclidbebmnaaa.PFnExactPathNumber Go.Proofs.YtpfclidbebmnaaaW.PrintWords Go.Proofs.YtpfclidbebmnaaaW.PrintLast Go.Proofs.YtpfclidbebmnaaaW.PrintMore
set_option maxRecDepth 100000

theorem FnExactPathNumber : laws_FnExactPathNumber.Pure := by
  intro a0 a1 _ _
  simp only [laws_FnExactPathNumber.f, spec_PathNumber.f, impl_PathNumber.f, impl_in.f, spec_l01In.f]
  by_cases h1 : a0 ≥ 2 <;> by_cases h2 : a0 ≤ 1000 <;> by_cases h3 : a1 ≥ 2 <;> by_cases h4 : a1 ≤ 1000 <;> simp [h1, h2, h3, h4]

end Go.Proofs.Ytpfclidbebmnaaa.Pure
