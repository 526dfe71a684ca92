/- The law FnExactLeastTriangles returns true for all arguments: the program's LeastTriangles is the reference's. No condition. -/
import Derived.Test.YtpfclidbebmnaaaPFnExactLeastTrianglesx1
namespace Go.Proofs.Ytpfclidbebmnaaa.Pure
open Go.RowKit Go.Proofs.Ytpfclidbebmnaaa.PFnExactLeastTriangles Go.Proofs.YtpfclidbebmnaaaW.PrintWords Go.Proofs.YtpfclidbebmnaaaW.PrintLast Go.Proofs.YtpfclidbebmnaaaW.PrintMore
set_option maxRecDepth 100000

theorem FnExactLeastTriangles : laws_FnExactLeastTriangles.Pure := by
  intro a0 _
  simp only [laws_FnExactLeastTriangles.f, spec_LeastTriangles.f, impl_LeastTriangles.f, impl_in.f, spec_l01In.f]
  by_cases h1 : a0 ≥ 1 <;> by_cases h2 : a0 ≤ 1000 <;> simp [h1, h2]

end Go.Proofs.Ytpfclidbebmnaaa.Pure
