-- written for this claim by a program of this session (wip/patch_print.py over the kit's print)
import Derived.Test.YtnnineobacckgaaPFnExactFootingsForx0
import Derived.Test.YtnnineobacckgaaPFnExactFootingsForx1
import Derived.Test.YtnnineobacckgaaPFnExactFootingsForx2
import Derived.Test.YtnnineobacckgaaPFnExactFootingsForx3
import Derived.Test.YtnnineobacckgaaPFnExactFootingsForx4
import Derived.Test.YtnnineobacckgaaPFnExactFootingsForx5
import Derived.Test.YtnnineobacckgaaPFnExactFootingsForx6
import Derived.Test.YtnnineobacckgaaPFnExactFootingsForx7
import Derived.Test.YtnnineobacckgaaPFnExactFootingsForx8
import Derived.Test.YtnnineobacckgaaPFnExactFootingsForx9
namespace Go.Proofs.Ytnnineobacckgaa.PFnExactFootingsFor
open Go.RowKit Go.Proofs.YtnnineobacckgaaW.PrintWords Go.Proofs.YtnnineobacckgaaW.PrintLast Go.Proofs.YtnnineobacckgaaW.PrintMore
attribute [local go_sem] max2_int min2_int max_two min_two max_three min_three max_four min_four   -- for this text's walks alone
set_option linter.unusedVariables false
set_option linter.unusedSimpArgs false

end Go.Proofs.Ytnnineobacckgaa.PFnExactFootingsFor
