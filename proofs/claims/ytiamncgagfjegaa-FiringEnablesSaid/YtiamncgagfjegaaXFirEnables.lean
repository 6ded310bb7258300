/- By hand (fir_enables): a part of this seat's proofs. -/
import Derived.Test.YtiamncgagfjegaaXLaws2
import Derived.Test.YtiamncgagfjegaaH16
import Derived.Test.YtiamncgagfjegaaH17
import Derived.Test.YtiamncgagfjegaaH18
import Derived.Test.YtiamncgagfjegaaH19
namespace Go.Proofs.Ytiamncgagfjegaa.Hy
open Go.RowKit Go.Shelf Go.Proofs.YtiamncgagfjegaaW.PrintWords Go.Proofs.YtiamncgagfjegaaW.PrintLast Go.Proofs.YtiamncgagfjegaaW.PrintMore
set_option linter.unusedVariables false
set_option linter.unusedSimpArgs false
attribute [local go_sem] Oper.semAt_some
/-! ### FiringEnables -/
theorem good_ev (nm : ByteArray) (ps : List S55) (ts : List S58) (m : List Int) (hl : ps.length ≤ 9223372036854775807) (hl2 : ts.length ≤ 9223372036854775807) (hk : lenOk ts) (hm : m.length ≤ 9223372036854775807) : Ev (fun k => petrinetref11_Good.f k nm ps ts m) (fitB nm ps ts m) := by
  simp only [petrinetref11_Good.f]
  refine Ev.bind (refCheck_ev nm ps ts hl hl2 hk) ?_
  rw [fitB]
  by_cases hc : (chkNet nm ps ts).1 = 0
  · simp only [if_pos hc, decide_eq_true hc, Bool.true_and]
    exact Ev.bind (valid4_ev m ps.length hm) (Ev.of fun _ => rfl)
  · simp only [if_neg hc, decide_eq_false hc, Bool.false_and]; exact Ev.of fun _ => rfl
theorem refList_ev (nm : ByteArray) (ps : List S55) (ts : List S58) (m : List Int) (hl : ps.length ≤ 9223372036854775807) (hl2 : ts.length ≤ 9223372036854775807) (hk : lenOk ts) (hm : m.length ≤ 9223372036854775807) : Ev (fun k => petrinetref11_List.f k nm ps ts m) (listR nm ps ts m) := by
  simp only [petrinetref11_List.f]
  refine Ev.bind (good_ev nm ps ts m hl hl2 hk hm) ?_
  rw [listR]
  by_cases h : fitB nm ps ts m = true
  · obtain ⟨hn, hM⟩ := fitB_ok h
    simp only [if_pos h]
    exact Ev.bind (fires_ev nm ps ts m (by have := hn.nt; omega) (by have := hM.len; omega)) (Ev.of fun _ => rfl)
  · simp only [if_neg h]; exact Ev.of fun _ => rfl
theorem refMay_ev (nm : ByteArray) (ps : List S55) (ts : List S58) (m : List Int) (t : Int) (hl : ps.length ≤ 9223372036854775807) (hl2 : ts.length ≤ 9223372036854775807) (hk : lenOk ts) (hm : m.length ≤ 9223372036854775807) : Ev (fun k => petrinetref11_May.f k nm ps ts m t) (memB (listR nm ps ts m) t) := by
  simp only [petrinetref11_May.f]
  refine Ev.bind (good_ev nm ps ts m hl hl2 hk hm) ?_
  rw [listR]
  by_cases h : fitB nm ps ts m = true
  · obtain ⟨hn, hM⟩ := fitB_ok h
    simp only [if_pos h]
    refine Ev.bind (fires_ev nm ps ts m (by have := hn.nt; omega) (by have := hM.len; omega)) ?_
    exact Ev.bind (has_ev _ t (by have := firesN_len ps ts m; omega)) (Ev.of fun _ => rfl)
  · simp only [if_neg h]; exact Ev.of fun _ => rfl
theorem refDead_ev (nm : ByteArray) (ps : List S55) (ts : List S58) (m : List Int) (hl : ps.length ≤ 9223372036854775807) (hl2 : ts.length ≤ 9223372036854775807) (hk : lenOk ts) (hm : m.length ≤ 9223372036854775807) : Ev (fun k => petrinetref11_Dead.f k nm ps ts m) (fitB nm ps ts m && (firesN ps ts m).isEmpty) := by
  simp only [petrinetref11_Dead.f]
  refine Ev.bind (good_ev nm ps ts m hl hl2 hk hm) ?_
  by_cases h : fitB nm ps ts m = true
  · obtain ⟨hn, hM⟩ := fitB_ok h
    simp only [if_pos h]
    refine Ev.bind (fires_ev nm ps ts m (by have := hn.nt; omega) (by have := hM.len; omega)) (Ev.val ?_)
    rw [h, Bool.true_and]
    cases firesN ps ts m with
    | nil => rfl
    | cons a l => simp; omega
  · simp only [if_neg h]
    refine Ev.val ?_
    simp only [Bool.not_eq_true] at h
    rw [h, Bool.false_and]
def enR (nm : ByteArray) (ps : List S55) (ts : List S58) (m : List Int) (t : Int) : Bool :=
  fitB nm ps ts m && (decide (0 ≤ t) && (decide (t < (ts.length : Int)) && rfReady ps (rd_T58 ts t) m))
theorem Enabled_ev (nm : ByteArray) (ps : List S55) (ts : List S58) (m : List Int) (t : Int) (hm : m.length ≤ 9223372036854775807) : Ev (fun k => firing_Enabled.f k nm ps ts m t) (enR nm ps ts m t) := by
  simp only [firing_Enabled.f]
  refine Ev.bind (fits_ev nm ps ts m hm) ?_
  show Ev (fun k => if fitB nm ps ts m = true then _ else _) _
  rw [enR]
  by_cases h : fitB nm ps ts m = true
  · obtain ⟨hn, hM⟩ := fitB_ok h
    rw [h, Bool.true_and]
    simp only [if_true]
    by_cases h1 : t ≥ 0
    · simp only [if_pos h1, if_pos (show 0 ≤ t from h1), decide_eq_true (show 0 ≤ t from h1), Bool.true_and]
      by_cases h2 : t < (ts.length : Int)
      · obtain ⟨n, rfl⟩ := Int.eq_ofNat_of_zero_le h1
        have hmem := rdT_mem (ts := ts) (i := n) (by omega)
        have h3 := readyOk_of hn hmem hM
        have hr : firing_ready.f nm ps ts m ((rd_T58 ts (n : Int)).f0) ((rd_T58 ts (n : Int)).f1) ((rd_T58 ts (n : Int)).f2) ((rd_T58 ts (n : Int)).f3) ((rd_T58 ts (n : Int)).f4) = some (rfReady ps (rd_T58 ts (n : Int)) m) := by
          rw [firing_ready.f, if_pos h3, ready_eq hn hmem hM]
        simp only [if_pos h2, decide_eq_true h2, Bool.true_and, hr, Option.bind_some]; exact Ev.of fun _ => rfl
      · simp only [if_neg h2, decide_eq_false h2, Bool.false_and]; exact Ev.of fun _ => rfl
    · simp only [if_neg h1, decide_eq_false (show ¬ 0 ≤ t from h1), Bool.false_and]; exact Ev.of fun _ => rfl
  · simp only [if_neg h]
    refine Ev.val ?_
    simp only [Bool.not_eq_true] at h
    rw [h, Bool.false_and]
theorem refEnabled_ev (nm : ByteArray) (ps : List S55) (ts : List S58) (m : List Int) (t : Int) (hl : ps.length ≤ 9223372036854775807) (hl2 : ts.length ≤ 9223372036854775807) (hk : lenOk ts) (hm : m.length ≤ 9223372036854775807) : Ev (fun k => petrinetref11_Enabled.f k nm ps ts m t) (enR nm ps ts m t) := by
  simp only [petrinetref11_Enabled.f]
  refine Ev.bind (good_ev nm ps ts m hl hl2 hk hm) ?_
  rw [enR]
  by_cases h : fitB nm ps ts m = true
  · obtain ⟨hn, hM⟩ := fitB_ok h
    rw [h, Bool.true_and]
    simp only [if_true]
    by_cases h1 : t ≥ 0
    · simp only [if_pos h1, decide_eq_true (show 0 ≤ t from h1), Bool.true_and]
      by_cases h2 : t < (ts.length : Int)
      · have hR : petrinetref11_Ready.f nm ps ts m t = some (rfReady ps (rd_T58 ts t) m) := if_pos ⟨h1, h2, by have := hM.len; omega⟩
        simp only [if_pos h2, decide_eq_true h2, Bool.true_and, hR, Option.bind_some]; exact Ev.of fun _ => rfl
      · simp only [if_neg h2, decide_eq_false h2, Bool.false_and]; exact Ev.of fun _ => rfl
    · simp only [if_neg h1, decide_eq_false (show ¬ 0 ≤ t from h1), Bool.false_and]; exact Ev.of fun _ => rfl
  · simp only [if_neg h]
    refine Ev.val ?_
    simp only [Bool.not_eq_true] at h
    rw [h, Bool.false_and]
theorem ints_ev (l : List Int) (hl : l.length ≤ 9223372036854775807) : Ev (fun k => petrinetref06_Ints.f k l l) true := by
  simp only [petrinetref06_Ints.f, if_true]
  refine Ev.loop l.length (fun k i => petrinetref06_Ints.l0 k l l (i : Int)) (fun _ => true) (fun i hi ih => ?_) ?_ 0 (Nat.zero_le _)
  · refine Ev.up ?_
    simp only [petrinetref06_Ints.l0, if_pos (show (i : Int) < (l.length : Int) by omega), if_pos (show (0 : Int) ≤ (i : Int) by omega), w_succ (show i < 9223372036854775807 by omega), if_true]
    exact ih
  · refine Ev.up ?_
    simp only [petrinetref06_Ints.l0, if_neg (show ¬ (l.length : Int) < (l.length : Int) by omega)]
    exact Ev.of fun _ => rfl
theorem FiringEnables_ev (nm : ByteArray) (ps : List S55) (ts : List S58) (m : List Int) (hm : m.length ≤ 9223372036854775807) : Ev (fun k => petrinetlaw11_FiringEnables.f k nm ps ts m) true := by
  simp only [petrinetlaw11_FiringEnables.f, petrinetref09_Small.f]
  by_cases hsm : small nm ps ts
  · have h1 := hsm.1
    have h2 := hsm.2.1
    have hk := small_lenOk hsm
    simp only [if_pos hsm, Option.bind_some, if_true]
    have key := Ev.loop (ts.length + 2) (fun k i => petrinetlaw11_FiringEnables.l0 k m ((i : Int) - 1) nm ps ts) (fun _ => true) (fun i hi ih => ?_) ?_ 0 (Nat.zero_le _)
    · exact Ev.congr key fun k => rfl
    · refine Ev.up ?_
      have e : wrap64 ((i : Int) - 1 + 1) = ((i + 1 : Nat) : Int) - 1 := by rw [w_id (by omega) (by omega)]; omega
      simp only [petrinetlaw11_FiringEnables.l0, if_pos (show (i : Int) - 1 ≤ (ts.length : Int) by omega), e]
      refine Ev.bind (Enabled_ev nm ps ts m _ hm) ?_
      refine Ev.bind (refEnabled_ev nm ps ts m _ (by omega) (by omega) hk hm) ?_
      simp only [bne_self_eq_false, if_neg (show ¬ (false = true) by decide)]
      refine Ev.bind (May_ev nm ps ts m _ hm (by omega)) ?_
      refine Ev.bind (refMay_ev nm ps ts m _ (by omega) (by omega) hk hm) ?_
      simp only [bne_self_eq_false, if_neg (show ¬ (false = true) by decide)]
      exact ih
    · refine Ev.up ?_
      simp only [petrinetlaw11_FiringEnables.l0, if_neg (show ¬ ((ts.length + 2 : Nat) : Int) - 1 ≤ (ts.length : Int) by omega)]
      refine Ev.bind (List_ev nm ps ts m hm) ?_
      refine Ev.bind (refList_ev nm ps ts m (by omega) (by omega) hk hm) ?_
      refine Ev.bind (ints_ev _ (by have := listR_len nm ps ts m; omega)) ?_
      simp only [if_true]
      refine Ev.bind (dead_ev nm ps ts m hm) ?_
      refine Ev.bind (refDead_ev nm ps ts m (by omega) (by omega) hk hm) ?_
      show Ev (fun k => if ((fitB nm ps ts m && (firesN ps ts m).isEmpty) == (fitB nm ps ts m && (firesN ps ts m).isEmpty)) = true then _ else _) _
      simp only [beq_self_eq_true, if_true]
      exact Ev.bind example_ev (Ev.of fun _ => rfl)
  · simp only [if_neg hsm, Option.bind_some, if_neg (show ¬ (false = true) by decide)]
    exact Ev.bind example_ev (Ev.of fun _ => rfl)

end Go.Proofs.Ytiamncgagfjegaa.Hy
