/- The plain side of the law FnExactConstants: lists and numbers alone. -/
import Derived.Test.YtpkklbjdhmpjnaaPFnExactConstantsx1
import Derived.Test.YtpkklbjdhmpjnaaGlue
import Derived.Test.YtpkklbjdhmpjnaaTot
set_option linter.unusedVariables false
set_option linter.unusedSimpArgs false
namespace Go.Proofs.Ytpkklbjdhmpjnaa.Pure
open Go.RowKit Go.Proofs.Ytpkklbjdhmpjnaa.PFnExactConstants Go.Proofs.YtpkklbjdhmpjnaaW.PrintWords Go.Proofs.YtpkklbjdhmpjnaaW.PrintMore Go.Proofs.Ytpkklbjdhmpjnaa.Tot



theorem FnExactConstants   : laws_FnExactConstants.f  = some true := by
  rfl
end Go.Proofs.Ytpkklbjdhmpjnaa.Pure
