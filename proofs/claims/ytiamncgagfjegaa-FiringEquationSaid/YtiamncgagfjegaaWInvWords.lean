-- By shrink.py (a program of this session): a part of the printed words.
import Derived.Test.YtiamncgagfjegaaWInv
import Derived.Test.YtiamncgagfjegaaWFootNe
namespace Go.Proofs.YtiamncgagfjegaaW.PrintWords
open Go.RowKit
end Go.Proofs.YtiamncgagfjegaaW.PrintWords
namespace Go.Proofs.YtiamncgagfjegaaW.PrintLast
section
variable {ops : Array Oper} {a : Act} {o og : Oper} {g : Nat} {t : Tmp} {u : Bool}
end
end Go.Proofs.YtiamncgagfjegaaW.PrintLast
