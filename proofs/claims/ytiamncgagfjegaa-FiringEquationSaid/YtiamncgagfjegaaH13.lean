-- Written by hyb.sh (a program of this session, over the kit's printer), for the seat Ytiamncgagfjegaa.
import Derived.Test.YtiamncgagfjegaaH0
import Derived.Test.YtiamncgagfjegaaXRef
namespace Go.Proofs.Ytiamncgagfjegaa.Hy
open Go.RowKit Go.Proofs.YtiamncgagfjegaaW.PrintWords Go.Proofs.YtiamncgagfjegaaW.PrintLast Go.Proofs.YtiamncgagfjegaaW.PrintMore
attribute [local go_sem] max2_int min2_int max_two min_two max_three min_three max_four min_four   -- for this text's walks alone
set_option linter.unusedVariables false
set_option linter.unusedSimpArgs false

/-! ### petrinetref11_Fires: function 41 -/
mutual
def petrinetref11_Fires.l0 : Nat → List Int → List Int → Int → Int → ByteArray → List (S55) → List (S58) → Option (List Int)
  | 0, _, _, _, _, _, _, _ => none
  | k + 1, x1, x5, x6, x7, x195000, x195001, x195002 => if x7 < (x195002.length : Int) then ((petrinetref11_Ready.f x195000 x195001 x195002 x1 x7).bind fun t195 => (if t195 = true then (if x5.length < 17592186044416 then (if 0 ≤ x7 then (petrinetref11_Fires.l0 k x1 (x5 ++ [x7]) (mx x6 ((rd_T58 x195002 x7).f4)) (wrap64 (x7 + 1)) x195000 x195001 x195002) else (none)) else (none)) else (petrinetref11_Fires.l0 k x1 x5 x6 (wrap64 (x7 + 1)) x195000 x195001 x195002))) else (petrinetref11_Fires.l1 k x5 x6 ([] : List Int) 0 x195000 x195001 x195002)
def petrinetref11_Fires.l1 : Nat → List Int → Int → List Int → Int → ByteArray → List (S55) → List (S58) → Option (List Int)
  | 0, _, _, _, _, _, _, _ => none
  | k + 1, x5, x6, x8, x9, x195000, x195001, x195002 => if x9 < (x5.length : Int) then (if 0 ≤ x9 then (if 0 ≤ (rd x5 x9) then (if (rd x5 x9) < (x195002.length : Int) then (if ((rd_T58 x195002 (rd x5 x9)).f4) = x6 then (if x8.length < 17592186044416 then (petrinetref11_Fires.l1 k x5 x6 (x8 ++ [rd x5 x9]) (wrap64 (x9 + 1)) x195000 x195001 x195002) else (none)) else (petrinetref11_Fires.l1 k x5 x6 x8 (wrap64 (x9 + 1)) x195000 x195001 x195002)) else (none)) else (none)) else (none)) else (some x8)
end
def petrinetref11_Fires.f (k : Nat) (a0_0 : ByteArray) (l0_1 : List (S55)) (l0_2 : List (S58)) (l1 : List Int) : Option (List Int) := petrinetref11_Fires.l0 k l1 ([] : List Int) 0 0 a0_0 l0_1 l0_2
end Go.Proofs.Ytiamncgagfjegaa.Hy
