/- The law FnExactConstants answers true: each exported constant of the program is the document's. No condition. -/
import Derived.Test.YtgbfmjgndcooeaaPFnExactConstantsx1
namespace Go.Proofs.Ytgbfmjgndcooeaa.Pure
open Go.RowKit Go.Proofs.Ytgbfmjgndcooeaa.PFnExactConstants Go.Proofs.YtgbfmjgndcooeaaW.PrintWords Go.Proofs.YtgbfmjgndcooeaaW.PrintLast

theorem FnExactConstants : laws_FnExactConstants.Pure := rfl

end Go.Proofs.Ytgbfmjgndcooeaa.Pure
