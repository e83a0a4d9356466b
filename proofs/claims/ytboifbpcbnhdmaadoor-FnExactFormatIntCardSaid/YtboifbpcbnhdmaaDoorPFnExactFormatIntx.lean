-- written for this claim by a program of this session (wip/patch_print.py over the kit's print)
import Derived.Test.YtboifbpcbnhdmaaDoorPFnExactFormatIntx0
import Derived.Test.YtboifbpcbnhdmaaDoorPFnExactFormatIntx1
namespace Go.Proofs.YtboifbpcbnhdmaaDoor.PFnExactFormatInt
open Go.RowKit Go.Proofs.YtboifbpcbnhdmaaDoorW.PrintWords Go.Proofs.YtboifbpcbnhdmaaDoorW.PrintLast Go.Proofs.YtboifbpcbnhdmaaDoorW.PrintMore
attribute [local go_sem] max2_int min2_int max_two min_two max_three min_three max_four min_four   -- for this text's walks alone
set_option linter.unusedVariables false
set_option linter.unusedSimpArgs false

end Go.Proofs.YtboifbpcbnhdmaaDoor.PFnExactFormatInt
