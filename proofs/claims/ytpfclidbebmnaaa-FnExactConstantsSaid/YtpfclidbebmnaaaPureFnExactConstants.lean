/- The law FnExactConstants returns true: every exported constant has its value. No condition. -/
import Derived.Test.YtpfclidbebmnaaaPFnExactConstantsx1
namespace Go.Proofs.Ytpfclidbebmnaaa.Pure
open Go.RowKit Go.Proofs.Ytpfclidbebmnaaa.PFnExactConstants Go.Proofs.YtpfclidbebmnaaaW.PrintWords Go.Proofs.YtpfclidbebmnaaaW.PrintLast Go.Proofs.YtpfclidbebmnaaaW.PrintMore
set_option maxRecDepth 100000

theorem FnExactConstants : laws_FnExactConstants.Pure := by
  rfl

end Go.Proofs.Ytpfclidbebmnaaa.Pure
