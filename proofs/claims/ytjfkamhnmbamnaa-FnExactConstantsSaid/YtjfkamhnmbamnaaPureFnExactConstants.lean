/- The program's constants are the reference's. Conditions: none. -/
import Derived.Test.YtjfkamhnmbamnaaPFnExactConstantsx1
namespace Go.Proofs.Ytjfkamhnmbamnaa.Pure
open Go.RowKit Go.Proofs.Ytjfkamhnmbamnaa.PFnExactConstants Go.Proofs.YtjfkamhnmbamnaaW.PrintWords Go.Proofs.YtjfkamhnmbamnaaW.PrintLast

theorem FnExactConstants : laws_FnExactConstants.Pure := rfl

end Go.Proofs.Ytjfkamhnmbamnaa.Pure
