-- Written by hyb.sh (a program of this session, over the kit's printer), for the seat Yteaimaafahpamaa.
import Derived.Test.YteaimaafahpamaaH0
import Derived.Test.YteaimaafahpamaaM2
namespace Go.Proofs.Yteaimaafahpamaa.Hy
open Go.RowKit Go.Proofs.YteaimaafahpamaaW.PrintWords Go.Proofs.YteaimaafahpamaaW.PrintLast Go.Proofs.YteaimaafahpamaaW.PrintMore
attribute [local go_sem] max2_int min2_int max_two min_two max_three min_three max_four min_four   -- for this text's walks alone
set_option linter.unusedVariables false
set_option linter.unusedSimpArgs false

/-! ### petrinetref04_Total: function 21 -/
mutual
def petrinetref04_Total.j0 : Nat → List Int → Bool → Option (Int)
  | 0, _, _ => none
  | k + 1, x0, x14 => if x14 = true then (some (-1)) else (petrinetref04_Total.l0 k x0 0 0)
def petrinetref04_Total.l0 : Nat → List Int → Int → Int → Option (Int)
  | 0, _, _, _ => none
  | k + 1, x0, x3, x4 => if x4 < (x0.length : Int) then (if 0 ≤ x4 then (petrinetref04_Total.l0 k x0 (wrap64 (x3 + (rd x0 x4))) (wrap64 (x4 + 1))) else (none)) else (some x3)
end
def petrinetref04_Total.f (k : Nat) (l0 : List Int) : Option (Int) := (petrinetref04_Valid.f k l0 (l0.length : Int)).bind fun t430 => (if t430 = true then (petrinetref04_Total.j0 k l0 (decide ((l0.length : Int) > 24))) else (petrinetref04_Total.j0 k l0 true))
-- NOT PRINTED: function 6 (petrinetlaw53_SimulateExtends)

end Go.Proofs.Yteaimaafahpamaa.Hy
