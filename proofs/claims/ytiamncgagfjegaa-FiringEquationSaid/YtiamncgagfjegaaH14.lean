-- Written by hyb.sh (a program of this session, over the kit's printer), for the seat Ytiamncgagfjegaa.
import Derived.Test.YtiamncgagfjegaaH0
import Derived.Test.YtiamncgagfjegaaH7
import Derived.Test.YtiamncgagfjegaaH12
import Derived.Test.YtiamncgagfjegaaH13
import Derived.Test.YtiamncgagfjegaaXRef
import Derived.Test.YtiamncgagfjegaaXRefChk
namespace Go.Proofs.Ytiamncgagfjegaa.Hy
open Go.RowKit Go.Proofs.YtiamncgagfjegaaW.PrintWords Go.Proofs.YtiamncgagfjegaaW.PrintLast Go.Proofs.YtiamncgagfjegaaW.PrintMore
attribute [local go_sem] max2_int min2_int max_two min_two max_three min_three max_four min_four   -- for this text's walks alone
set_option linter.unusedVariables false
set_option linter.unusedSimpArgs false

/-! ### petrinetref11_Fire: function 12 -/
def petrinetref11_Fire.j0 : Nat → List Int → Int → Bool → ByteArray → List (S55) → List (S58) → Option (List Int × Int)
  | 0, _, _, _, _, _, _ => none
  | k + 1, x1, x2, x32, x207000, x207001, x207002 => if x32 = true then (some (([] : List Int), 1)) else ((petrinetref11_Fires.f k x207000 x207001 x207002 x1).bind fun t211 => ((petrinetref11_has.f k t211 x2).bind fun t214 => (if t214 = true then ((petrinetref11_After.f x207000 x207001 x207002 x1 x2).bind fun bt215 => (if bt215.2 = true then (some (bt215.1, 0)) else (some (([] : List Int), 3)))) else (some (([] : List Int), 13)))))
def petrinetref11_Fire.f (k : Nat) (a0_0 : ByteArray) (l0_1 : List (S55)) (l0_2 : List (S58)) (l1 : List Int) (a2 : Int) : Option (List Int × Int) := (petrinetref09_Check.f a0_0 l0_1 l0_2).bind fun bt207 => (if bt207.1 = 0 then ((petrinetref04_Valid.f k l1 (l0_1.length : Int)).bind fun t210 => (if t210 = true then (if a2 < 0 then (petrinetref11_Fire.j0 k l1 a2 true a0_0 l0_1 l0_2) else (petrinetref11_Fire.j0 k l1 a2 (decide (a2 ≥ (l0_2.length : Int))) a0_0 l0_1 l0_2)) else (some (([] : List Int), 2)))) else (some (([] : List Int), bt207.1)))
end Go.Proofs.Ytiamncgagfjegaa.Hy
