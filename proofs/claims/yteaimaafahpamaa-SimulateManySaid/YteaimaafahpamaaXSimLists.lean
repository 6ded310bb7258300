/- By hand (sim_lists): a part of this seat's proofs. -/
import Derived.Test.YteaimaafahpamaaXSimPure2
import Derived.Test.YteaimaafahpamaaH28
namespace Go.Proofs.Yteaimaafahpamaa.Hy
open Go.RowKit Go.Shelf Go.Proofs.YteaimaafahpamaaW.PrintWords Go.Proofs.YteaimaafahpamaaW.PrintLast Go.Proofs.YteaimaafahpamaaW.PrintMore
set_option linter.unusedVariables false
set_option linter.unusedSimpArgs false
attribute [local go_sem] Oper.semAt_some
/-! ### lists -/
theorem lists_ev (L : List (List Int)) (hl : L.length ≤ 1000000) (he : ∀ x ∈ L, x.length ≤ 1000000) : Ev (fun k => petrinetref04_Lists.f k L L) true := by
  simp only [petrinetref04_Lists.f, if_true]
  refine Ev.loop L.length (fun k i => petrinetref04_Lists.l0 k L L (i : Int)) (fun _ => true) (fun i hi ih => ?_) ?_ 0 (Nat.zero_le _)
  · have hm : (rd_L6 L (i : Int)).length ≤ 1000000 := by
      refine he _ ?_
      rw [rd_L6, Int.toNat_natCast, List.getD_eq_getElem?_getD, List.getElem?_eq_getElem hi]; exact List.getElem_mem hi
    refine Ev.up ?_
    simp only [petrinetref04_Lists.l0, if_pos (show (i : Int) < (L.length : Int) by omega), if_pos (show (0 : Int) ≤ (i : Int) by omega), w_succ (show i < 9223372036854775807 by omega)]
    refine Ev.bind (same_ev _ (by omega)) ?_
    simp only [if_true]
    exact ih
  · refine Ev.up ?_
    simp only [petrinetref04_Lists.l0, if_neg (show ¬ (L.length : Int) < (L.length : Int) by omega)]
    exact Ev.of fun _ => rfl

end Go.Proofs.Yteaimaafahpamaa.Hy
