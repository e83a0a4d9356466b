-- written for this claim by a program of this session (wip/patch_print.py over the kit's print)
import Derived.Test.YtnnineobacckgaaPFnExactGeneratex0
import Derived.Test.YtnnineobacckgaaPFnExactGeneratex1
import Derived.Test.YtnnineobacckgaaPFnExactGeneratex2
import Derived.Test.YtnnineobacckgaaPFnExactGeneratex3
import Derived.Test.YtnnineobacckgaaPFnExactGeneratex4
import Derived.Test.YtnnineobacckgaaPFnExactGeneratex5
namespace Go.Proofs.Ytnnineobacckgaa.PFnExactGenerate
open Go.RowKit Go.Proofs.YtnnineobacckgaaW.PrintWords Go.Proofs.YtnnineobacckgaaW.PrintLast Go.Proofs.YtnnineobacckgaaW.PrintMore
attribute [local go_sem] max2_int min2_int max_two min_two max_three min_three max_four min_four   -- for this text's walks alone
set_option linter.unusedVariables false
set_option linter.unusedSimpArgs false

end Go.Proofs.Ytnnineobacckgaa.PFnExactGenerate
