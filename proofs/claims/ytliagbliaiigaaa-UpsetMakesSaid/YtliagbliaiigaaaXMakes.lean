/- By hand (up_laws): a part of this seat's proofs. -/
import Derived.Test.YtliagbliaiigaaaXRef
import Derived.Test.YtliagbliaiigaaaH12
namespace Go.Proofs.Ytliagbliaiigaaa.Hy
open Go.RowKit Go.Shelf Go.Proofs.YtliagbliaiigaaaW.PrintWords Go.Proofs.YtliagbliaiigaaaW.PrintLast Go.Proofs.YtliagbliaiigaaaW.PrintMore
set_option linter.unusedVariables false
set_option linter.unusedSimpArgs false
attribute [local go_sem] Oper.semAt_some
theorem makes_ev (l : List (List Int)) (n : Int) : Ev (fun k => petrinetlaw21_UpsetMakes.f k l n) true := by
  simp only [petrinetlaw21_UpsetMakes.f, petrinetlaw21_lives.f, Option.bind_some]
  refine Ev.bind (few_ev l) ?_
  cases hf : fewB l with
  | false => simp only [if_neg (show ¬ (false = true) by decide)]; exact Ev.of fun _ => rfl
  | true =>
    have hok := few_in hf
    have hl := (few_ok hf).1
    simp only [if_true, make_f hok, valid_f hok, Option.bind_some]
    refine Ev.bind (refmake_ev l hok (by omega)) ?_
    refine Ev.bind (lists_ev _ _ (makeL_ok hok)) ?_
    simp only [decide_eq_true rfl, if_true]
    refine Ev.bind (refvalid_ev l n hok (by omega)) ?_
    simp only [beq_self_eq_true, if_true]
    exact Ev.of fun _ => rfl
theorem makes_row (l : List (List Int)) (n : Int) (_ : l.length ≤ 9223372036854775807) : Ev (fun k => petrinetlaw21_UpsetMakes.f k l n) true := makes_ev l n

end Go.Proofs.Ytliagbliaiigaaa.Hy
