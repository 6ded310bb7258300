/- By hand (up_contains): a part of this seat's proofs. -/
import Derived.Test.YtliagbliaiigaaaXRef
import Derived.Test.YtliagbliaiigaaaH13
namespace Go.Proofs.Ytliagbliaiigaaa.Hy
open Go.RowKit Go.Shelf Go.Proofs.YtliagbliaiigaaaW.PrintWords Go.Proofs.YtliagbliaiigaaaW.PrintLast Go.Proofs.YtliagbliaiigaaaW.PrintMore
set_option linter.unusedVariables false
set_option linter.unusedSimpArgs false
attribute [local go_sem] Oper.semAt_some
theorem contains_ev (l : List (List Int)) (m : List Int) : Ev (fun k => petrinetlaw21_UpsetContains.f k l m) true := by
  have hj : Ev (fun k => petrinetlaw21_UpsetContains.j0 k l m true) true := by
    refine Ev.up ?_
    simp only [petrinetlaw21_UpsetContains.j0, petrinetlaw21_lives.f, Option.bind_some, if_true]
    exact Ev.of fun _ => rfl
  simp only [petrinetlaw21_UpsetContains.f]
  refine Ev.bind (few_ev l) ?_
  cases hf : fewB l with
  | false => simp only [if_neg (show ¬ (false = true) by decide)]; exact hj
  | true =>
    have hok := few_in hf
    have hl := (few_ok hf).1
    simp only [if_true]
    by_cases hm : (m.length : Int) > 30
    · rw [decide_eq_true hm]; exact hj
    · rw [decide_eq_false hm]
      refine Ev.up ?_
      simp only [petrinetlaw21_UpsetContains.j0, petrinetlaw21_lives.f, if_neg (show ¬ (false = true) by decide), has_f hok (show m.length ≤ 1000000 by omega), Option.bind_some]
      refine Ev.bind (refhas_ev l m hok (by omega) (by omega)) ?_
      simp only [beq_self_eq_true, if_true]
      exact Ev.of fun _ => rfl
theorem contains_row (l : List (List Int)) (m : List Int) (_ : l.length ≤ 9223372036854775807) (_ : m.length ≤ 9223372036854775807) : Ev (fun k => petrinetlaw21_UpsetContains.f k l m) true := contains_ev l m

end Go.Proofs.Ytliagbliaiigaaa.Hy
