/- By hand (fir_runs, fir_runlaw): a part of this seat's proofs. -/
import Derived.Test.YtiamncgagfjegaaXLaws
import Derived.Test.YtiamncgagfjegaaXRun
import Derived.Test.YtiamncgagfjegaaH0
import Derived.Test.YtiamncgagfjegaaH7
import Derived.Test.YtiamncgagfjegaaH14
import Derived.Test.YtiamncgagfjegaaXRefChk
import Derived.Test.YtiamncgagfjegaaH22
namespace Go.Proofs.Ytiamncgagfjegaa.Hy
open Go.RowKit Go.Shelf Go.Proofs.YtiamncgagfjegaaW.PrintWords Go.Proofs.YtiamncgagfjegaaW.PrintLast Go.Proofs.YtiamncgagfjegaaW.PrintMore
set_option linter.unusedVariables false
set_option linter.unusedSimpArgs false
attribute [local go_sem] Oper.semAt_some
def runR (nm : ByteArray) (ps : List S55) (ts : List S58) : Nat → List Int → List Int → List Int × Int × Int
  | _, out, [] => (out, 0, 0)
  | i, out, t :: r => if (fireR nm ps ts out t).2 = 0 then runR nm ps ts (i + 1) (fireR nm ps ts out t).1 r else ([], (fireR nm ps ts out t).2, (i : Int))
def RunR (nm : ByteArray) (ps : List S55) (ts : List S58) (m seq : List Int) : List Int × Int × Int :=
  if (chkNet nm ps ts).1 ≠ 0 then ([], (chkNet nm ps ts).1, 0) else if markB ps.length m = true then runR nm ps ts 0 m seq else ([], 2, 0)
theorem runL_ev (nm : ByteArray) (ps : List S55) (ts : List S58) (hl : ps.length ≤ 9223372036854775807) : ∀ (seq : List Int) (i : Nat) (out : List Int), out.length ≤ ps.length → Ev (fun k => runL k nm ps ts i out seq) (runR nm ps ts i out seq) := by
  intro seq
  induction seq with
  | nil => intro i out _; exact Ev.of fun _ => rfl
  | cons t r ih =>
    intro i out h
    simp only [runL, runR]
    refine Ev.bind (fire_ev nm ps ts out t (by omega)) ?_
    by_cases hz : (fireR nm ps ts out t).2 = 0
    · simp only [if_pos hz]; exact ih _ _ (fireR_len nm ps ts out t)
    · simp only [if_neg hz]; exact Ev.of fun _ => rfl
theorem Run_ev (nm : ByteArray) (ps : List S55) (ts : List S58) (m seq : List Int) (hl : ps.length ≤ 9223372036854775807) (hm : m.length ≤ 9223372036854775807) : Ev (fun k => firing_Run.f k nm ps ts m seq) (RunR nm ps ts m seq) := by
  simp only [firing_Run.f, RunR]
  by_cases hc : (chkNet nm ps ts).1 ≠ 0
  · simp only [if_pos hc]; exact Ev.of fun _ => rfl
  · simp only [if_neg hc]
    refine Ev.bind (valid_ev m ps.length hm) ?_
    cases hv : markB ps.length m with
    | false => simp only [if_neg (show ¬ (false = true) by decide)]; exact Ev.of fun _ => rfl
    | true =>
      have hM := markB_ok hv
      have hn := (chkNet_ok (by simpa using hc)).2
      simp only [if_true, if_pos (show m.length ≤ 1000 by have := hM.len; have := hn.np; omega)]
      exact runL_ev nm ps ts hl seq 0 m (by have := hM.len; omega)
end Go.Proofs.Ytiamncgagfjegaa.Hy
