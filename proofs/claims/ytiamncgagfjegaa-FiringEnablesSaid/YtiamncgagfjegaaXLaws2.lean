/- By hand (fir_laws2): a part of this seat's proofs. -/
import Derived.Test.YtiamncgagfjegaaXLaws
import Derived.Test.YtiamncgagfjegaaH17
namespace Go.Proofs.Ytiamncgagfjegaa.Hy
open Go.RowKit Go.Shelf Go.Proofs.YtiamncgagfjegaaW.PrintWords Go.Proofs.YtiamncgagfjegaaW.PrintLast Go.Proofs.YtiamncgagfjegaaW.PrintMore
set_option linter.unusedVariables false
set_option linter.unusedSimpArgs false
attribute [local go_sem] Oper.semAt_some
def fitB (nm : ByteArray) (ps : List S55) (ts : List S58) (m : List Int) : Bool := decide ((chkNet nm ps ts).1 = 0) && markB ps.length m
theorem fitB_ok {nm : ByteArray} {ps : List S55} {ts : List S58} {m : List Int} (h : fitB nm ps ts m = true) : NetOk ps ts ∧ MOk ps.length m := by
  rw [fitB, Bool.and_eq_true, decide_eq_true_eq] at h
  exact ⟨(chkNet_ok h.1).2, markB_ok h.2⟩
theorem list_some {nm : ByteArray} {ps : List S55} {ts : List S58} {m : List Int} (h : fitB nm ps ts m = true) : firing_list.f nm ps ts m = some (firesN ps ts m) := by
  obtain ⟨hn, hM⟩ := fitB_ok h
  rw [firing_list.f, if_pos ⟨fun t ht => readyOk_of hn ht hM, by have := hn.nt; omega⟩, may_eq hn hM]
def listR (nm : ByteArray) (ps : List S55) (ts : List S58) (m : List Int) : List Int := if fitB nm ps ts m = true then firesN ps ts m else []
theorem listR_len (nm : ByteArray) (ps : List S55) (ts : List S58) (m : List Int) : (listR nm ps ts m).length ≤ ts.length := by
  rw [listR]; split
  · exact firesN_len ps ts m
  · simp
theorem List_ev (nm : ByteArray) (ps : List S55) (ts : List S58) (m : List Int) (hm : m.length ≤ 9223372036854775807) : Ev (fun k => firing_List.f k nm ps ts m) (listR nm ps ts m) := by
  simp only [firing_List.f]
  refine Ev.bind (fits_ev nm ps ts m hm) ?_
  show Ev (fun k => if fitB nm ps ts m = true then _ else _) _
  rw [listR]
  by_cases h : fitB nm ps ts m = true
  · simp only [if_pos h, list_some h, Option.bind_some]; exact Ev.of fun _ => rfl
  · simp only [if_neg h]; exact Ev.of fun _ => rfl
theorem May_ev (nm : ByteArray) (ps : List S55) (ts : List S58) (m : List Int) (t : Int) (hm : m.length ≤ 9223372036854775807) (ht : ts.length ≤ 9223372036854775807) : Ev (fun k => firing_May.f k nm ps ts m t) (memB (listR nm ps ts m) t) := by
  simp only [firing_May.f]
  refine Ev.bind (List_ev nm ps ts m hm) ?_
  exact Ev.bind (among_ev _ t (by have := listR_len nm ps ts m; omega)) (Ev.of fun _ => rfl)

end Go.Proofs.Ytiamncgagfjegaa.Hy
