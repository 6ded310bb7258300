/- By hand (fir_fires): a part of this seat's proofs. -/
import Derived.Test.YtiamncgagfjegaaXLaws
import Derived.Test.YtiamncgagfjegaaH16
namespace Go.Proofs.Ytiamncgagfjegaa.Hy
open Go.RowKit Go.Shelf Go.Proofs.YtiamncgagfjegaaW.PrintWords Go.Proofs.YtiamncgagfjegaaW.PrintLast Go.Proofs.YtiamncgagfjegaaW.PrintMore
set_option linter.unusedVariables false
set_option linter.unusedSimpArgs false
attribute [local go_sem] Oper.semAt_some
theorem FiringFires_ev (nm : ByteArray) (ps : List S55) (ts : List S58) (m : List Int) (t : Int) (hm : m.length ≤ 9223372036854775807) : Ev (fun k => petrinetlaw11_FiringFires.f k nm ps ts m t) true := by
  simp only [petrinetlaw11_FiringFires.f, petrinetref09_Small.f]
  by_cases hs : small nm ps ts
  · have h1 := hs.1
    have h2 := hs.2.1
    simp only [if_pos hs, Option.bind_some, if_true]
    refine Ev.bind (fire_ev nm ps ts m t hm) ?_
    refine Ev.bind (refFire_ev nm ps ts m t (by omega) (by omega) (small_lenOk hs) hm) ?_
    refine Ev.bind (same_ev _ (by have := fireR_len nm ps ts m t; omega)) ?_
    simp only [if_true]
    exact Ev.bind example_ev (Ev.of fun _ => rfl)
  · simp only [if_neg hs, Option.bind_some, if_neg (show ¬ (false = true) by decide)]
    exact Ev.bind example_ev (Ev.of fun _ => rfl)

end Go.Proofs.Ytiamncgagfjegaa.Hy
