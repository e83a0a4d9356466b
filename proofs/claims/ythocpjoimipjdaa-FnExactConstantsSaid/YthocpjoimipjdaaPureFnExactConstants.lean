/- The program's constants are the reference's. -/
import Derived.Test.YthocpjoimipjdaaPFnExactConstantsx1
import Derived.Test.YthocpjoimipjdaaBase
namespace Go.Proofs.Ythocpjoimipjdaa.Pure
open Go.RowKit Go.Proofs.Ythocpjoimipjdaa.PFnExactConstants Go.Proofs.YthocpjoimipjdaaW.PrintWords Go.Proofs.YthocpjoimipjdaaW.PrintLast Go.Proofs.YthocpjoimipjdaaW.PrintMore Go.Proofs.Ythocpjoimipjdaa.Base
set_option linter.unusedVariables false
set_option linter.unusedSimpArgs false


theorem FnExactConstants : laws_FnExactConstants.Pure := rfl

end Go.Proofs.Ythocpjoimipjdaa.Pure
