/- The pure side of FnExactConstants: the constants of the program have the values that the document gives. No condition. -/
import Derived.Test.YtpniceeapbogpaaPFnExactConstantsx1
namespace Go.Proofs.Ytpniceeapbogpaa.Pure
open Go.RowKit Go.Proofs.Ytpniceeapbogpaa.PFnExactConstants Go.Proofs.YtpniceeapbogpaaW.PrintWords Go.Proofs.YtpniceeapbogpaaW.PrintLast

theorem FnExactConstants : laws_FnExactConstants.Pure := by
  rfl

end Go.Proofs.Ytpniceeapbogpaa.Pure
