/- By hand (ref_name, ref_chk1, ref_chk2, ref_chk3, ref_chk4): a part of this seat's proofs. -/
import Derived.RangeFuncNested
import Derived.RangeFuncBound
import Derived.RangeFuncCalls
import Derived.RangeFuncLeaves
import Derived.Shelf.Abstract
import Derived.Shelf.RegionOpen
import Derived.WalkKit
import Derived.OwnWalkIn
import Derived.TacticsInMore
import Derived.LoopNIn
import Derived.LoopIn
import Derived.LoopTactic
import Derived.RegionIn
import Derived.Laws.RangeString
import Derived.Laws.RangeAny
import Derived.RegionTactic
import Derived.BigRegion
import Derived.Outline
import Derived.Handy
import Derived.Laws.CopyOwn
import Derived.Sort.LoopGhostIn
import Derived.Stop.RegionWithIn
import Derived.Laws.EntriesVeiled
import Derived.Maps.AppendAt
import Derived.Test.YtiamncgagfjegaaProg
import Derived.Test.YtiamncgagfjegaaWMore
import Derived.Test.YtiamncgagfjegaaWLast
import Derived.Test.YtiamncgagfjegaaXBase
import Derived.Test.YtiamncgagfjegaaXCheck
import Derived.Test.YtiamncgagfjegaaH0
import Derived.IntWalk
namespace Go.Proofs.Ytiamncgagfjegaa.Hy
open Go.RowKit Go.Shelf Go.Proofs.YtiamncgagfjegaaW.PrintWords Go.Proofs.YtiamncgagfjegaaW.PrintLast Go.Proofs.YtiamncgagfjegaaW.PrintMore
set_option linter.unusedVariables false
set_option linter.unusedSimpArgs false
attribute [local go_sem] Oper.semAt_some
/-! ### petrinetref09.Name -/
/-! ### petrinetref09.arcs, place -/
def nmP (ps : List S55) : List ByteArray := ps.map (·.f0)
def nmT (ts : List S58) : List ByteArray := ts.map (·.f0)
/-! ### petrinetref09.trans -/
/-! ### petrinetref09.Check -/
theorem plE_zero {names : List ByteArray} {p : S55} (h : plE names p = 0) : addN names p.f0 = names ++ [p.f0] := by
  rw [plE] at h
  by_cases hc : addC names p.f0 = 0
  · rw [addN, if_pos hc]
  · rw [if_neg hc] at h; exact absurd h hc
theorem trE_zero {P : Int} {names : List ByteArray} {t : S58} (h : trE P names t = 0) : addN names t.f0 = names ++ [t.f0] := by
  rw [trE] at h
  by_cases hc : addC names t.f0 = 0
  · rw [addN, if_pos hc]
  · rw [if_neg hc] at h; exact absurd h hc
theorem take_rdT' {l : List S58} {j : Nat} (h : j < l.length) : l.take (j + 1) = l.take j ++ [rd_T58 l (j : Int)] := by
  rw [List.take_succ_eq_append_getElem h, rd_T58, Int.toNat_natCast, List.getD_eq_getElem?_getD, List.getElem?_eq_getElem h]; rfl
def petrinetref09_Check.f (a0_0 : ByteArray) (l0_1 : List (S55)) (l0_2 : List (S58)) : Option (Int × Int) := some (chkNet a0_0 l0_1 l0_2)
end Go.Proofs.Ytiamncgagfjegaa.Hy
