/- The constants of the program are those of the document: the law FnExactConstants answers true. No conditions. -/
import Derived.Test.YtekbinpeajogeaaPFnExactConstantsx1
namespace Go.Proofs.Ytekbinpeajogeaa.Pure
open Go.RowKit Go.Proofs.Ytekbinpeajogeaa.PFnExactConstants Go.Proofs.YtekbinpeajogeaaW.PrintWords Go.Proofs.YtekbinpeajogeaaW.PrintLast

-- BODY
theorem FnExactConstants : laws_FnExactConstants.Pure := by
  rfl

end Go.Proofs.Ytekbinpeajogeaa.Pure
