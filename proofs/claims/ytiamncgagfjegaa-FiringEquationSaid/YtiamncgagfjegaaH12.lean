-- Written by hyb.sh (a program of this session, over the kit's printer), for the seat Ytiamncgagfjegaa.
import Derived.Test.YtiamncgagfjegaaH0
namespace Go.Proofs.Ytiamncgagfjegaa.Hy
open Go.RowKit Go.Proofs.YtiamncgagfjegaaW.PrintWords Go.Proofs.YtiamncgagfjegaaW.PrintLast Go.Proofs.YtiamncgagfjegaaW.PrintMore
attribute [local go_sem] max2_int min2_int max_two min_two max_three min_three max_four min_four   -- for this text's walks alone
set_option linter.unusedVariables false
set_option linter.unusedSimpArgs false

/-! ### petrinetref11_has: function 40 -/
def petrinetref11_has.l0 : Nat → List Int → Int → Int → Option (Bool)
  | 0, _, _, _ => none
  | k + 1, x0, x1, x5 => if x5 < (x0.length : Int) then (if 0 ≤ x5 then (if (rd x0 x5) = x1 then (some true) else (petrinetref11_has.l0 k x0 x1 (wrap64 (x5 + 1)))) else (none)) else (some false)
def petrinetref11_has.f (k : Nat) (l0 : List Int) (a1 : Int) : Option (Bool) := petrinetref11_has.l0 k l0 a1 0
/-! ### petrinetref11_weight: function 60 -/
end Go.Proofs.Ytiamncgagfjegaa.Hy
