/- By hand (ref_parikh): a part of this seat's proofs. -/
import Derived.Test.YtiamncgagfjegaaXRefChk
namespace Go.Proofs.Ytiamncgagfjegaa.Hy
open Go.RowKit Go.Shelf Go.Proofs.YtiamncgagfjegaaW.PrintWords Go.Proofs.YtiamncgagfjegaaW.PrintLast Go.Proofs.YtiamncgagfjegaaW.PrintMore
set_option linter.unusedVariables false
set_option linter.unusedSimpArgs false
attribute [local go_sem] Oper.semAt_some
/-! ### petrinetref11.Parikh -/
def parL (n : Nat) : List Int → List Int → List Int × Int
  | o, [] => (o, 0)
  | o, t :: r => if t < 0 ∨ (n : Int) ≤ t then ([], 1) else parL n (o.set t.toNat (wrap64 (rd o t + 1))) r
def parR (nm : ByteArray) (ps : List S55) (ts : List S58) (seq : List Int) : List Int × Int :=
  if (chkNet nm ps ts).1 ≠ 0 then ([], (chkNet nm ps ts).1) else parL ts.length (List.replicate ts.length 0) seq
end Go.Proofs.Ytiamncgagfjegaa.Hy
