-- Written by hyb.sh (a program of this session, over the kit's printer), for the seat Ytiamncgagfjegaa.
import Derived.Test.YtiamncgagfjegaaH0
import Derived.Test.YtiamncgagfjegaaH7
import Derived.Test.YtiamncgagfjegaaH14
import Derived.Test.YtiamncgagfjegaaH20
import Derived.Test.YtiamncgagfjegaaXRefChk
namespace Go.Proofs.Ytiamncgagfjegaa.Hy
open Go.RowKit Go.Proofs.YtiamncgagfjegaaW.PrintWords Go.Proofs.YtiamncgagfjegaaW.PrintLast Go.Proofs.YtiamncgagfjegaaW.PrintMore
attribute [local go_sem] max2_int min2_int max_two min_two max_three min_three max_four min_four   -- for this text's walks alone
set_option linter.unusedVariables false
set_option linter.unusedSimpArgs false

/-! ### petrinetref11_Run: function 24 -/
end Go.Proofs.Ytiamncgagfjegaa.Hy
