/- By hand (fir_runs, fir_runlaw): a part of this seat's proofs. -/
import Derived.Test.YtiamncgagfjegaaXLaws
import Derived.Test.YtiamncgagfjegaaXRun
import Derived.Test.YtiamncgagfjegaaH21
import Derived.Test.YtiamncgagfjegaaH22
namespace Go.Proofs.Ytiamncgagfjegaa.Hy
open Go.RowKit Go.Shelf Go.Proofs.YtiamncgagfjegaaW.PrintWords Go.Proofs.YtiamncgagfjegaaW.PrintLast Go.Proofs.YtiamncgagfjegaaW.PrintMore
set_option linter.unusedVariables false
set_option linter.unusedSimpArgs false
attribute [local go_sem] Oper.semAt_some
def runR (nm : ByteArray) (ps : List S55) (ts : List S58) : Nat → List Int → List Int → List Int × Int × Int
  | _, out, [] => (out, 0, 0)
  | i, out, t :: r => if (fireR nm ps ts out t).2 = 0 then runR nm ps ts (i + 1) (fireR nm ps ts out t).1 r else ([], (fireR nm ps ts out t).2, (i : Int))
def RunR (nm : ByteArray) (ps : List S55) (ts : List S58) (m seq : List Int) : List Int × Int × Int :=
  if (chkNet nm ps ts).1 ≠ 0 then ([], (chkNet nm ps ts).1, 0) else if markB ps.length m = true then runR nm ps ts 0 m seq else ([], 2, 0)
theorem runR_len (nm : ByteArray) (ps : List S55) (ts : List S58) : ∀ (seq : List Int) (i : Nat) (out : List Int), out.length ≤ ps.length → (runR nm ps ts i out seq).1.length ≤ ps.length := by
  intro seq
  induction seq with
  | nil => intro i out h; exact h
  | cons t r ih =>
    intro i out h
    rw [runR]
    split
    · exact ih _ _ (fireR_len nm ps ts out t)
    · simp
theorem runL_ev (nm : ByteArray) (ps : List S55) (ts : List S58) (hl : ps.length ≤ 9223372036854775807) : ∀ (seq : List Int) (i : Nat) (out : List Int), out.length ≤ ps.length → Ev (fun k => runL k nm ps ts i out seq) (runR nm ps ts i out seq) := by
  intro seq
  induction seq with
  | nil => intro i out _; exact Ev.of fun _ => rfl
  | cons t r ih =>
    intro i out h
    simp only [runL, runR]
    refine Ev.bind (fire_ev nm ps ts out t (by omega)) ?_
    by_cases hz : (fireR nm ps ts out t).2 = 0
    · simp only [if_pos hz]; exact ih _ _ (fireR_len nm ps ts out t)
    · simp only [if_neg hz]; exact Ev.of fun _ => rfl
theorem Run_ev (nm : ByteArray) (ps : List S55) (ts : List S58) (m seq : List Int) (hl : ps.length ≤ 9223372036854775807) (hm : m.length ≤ 9223372036854775807) : Ev (fun k => firing_Run.f k nm ps ts m seq) (RunR nm ps ts m seq) := by
  simp only [firing_Run.f, RunR]
  by_cases hc : (chkNet nm ps ts).1 ≠ 0
  · simp only [if_pos hc]; exact Ev.of fun _ => rfl
  · simp only [if_neg hc]
    refine Ev.bind (valid_ev m ps.length hm) ?_
    cases hv : markB ps.length m with
    | false => simp only [if_neg (show ¬ (false = true) by decide)]; exact Ev.of fun _ => rfl
    | true =>
      have hM := markB_ok hv
      have hn := (chkNet_ok (by simpa using hc)).2
      simp only [if_true, if_pos (show m.length ≤ 1000 by have := hM.len; have := hn.np; omega)]
      exact runL_ev nm ps ts hl seq 0 m (by have := hM.len; omega)
theorem copy4_ev (l : List Int) (hl : l.length ≤ 1000) : Ev (fun k => petrinetref04_Copy.f k l) l := by
  simp only [petrinetref04_Copy.f]
  have key := Ev.loop l.length (fun k i => petrinetref04_Copy.l0 k l (l.take i) (i : Int)) (fun _ => l) (fun i hi ih => ?_) ?_ 0 (Nat.zero_le _)
  · simpa using key
  · refine Ev.up ?_
    simp only [petrinetref04_Copy.l0, if_pos (show (i : Int) < (l.length : Int) by omega), if_pos (show (0 : Int) ≤ (i : Int) by omega), w_succ (show i < 9223372036854775807 by omega), if_pos (show (l.take i).length < 17592186044416 by have : (l.take i).length ≤ i := List.length_take_le _ _; omega)]
    have e : l.take i ++ [rd l (i : Int)] = l.take (i + 1) := by
      rw [List.take_succ_eq_append_getElem hi, rd_nat, List.getD_eq_getElem?_getD, List.getElem?_eq_getElem hi]; rfl
    simp only [e]; exact ih
  · refine Ev.up ?_
    simp only [petrinetref04_Copy.l0, if_neg (show ¬ (l.length : Int) < (l.length : Int) by omega)]
    rw [List.take_length]; exact Ev.of fun _ => rfl
theorem refRun_ev (nm : ByteArray) (ps : List S55) (ts : List S58) (m seq : List Int) (hl : ps.length ≤ 9223372036854775807) (hl2 : ts.length ≤ 9223372036854775807) (hk : lenOk ts) (hm : m.length ≤ 9223372036854775807) (hs : seq.length ≤ 9223372036854775807) : Ev (fun k => petrinetref11_Run.f k nm ps ts m seq) (RunR nm ps ts m seq) := by
  simp only [petrinetref11_Run.f, RunR]
  refine Ev.bind (refCheck_ev nm ps ts hl hl2 hk) ?_
  by_cases hc : (chkNet nm ps ts).1 = 0
  · simp only [if_pos hc]
    rw [if_neg (by simp [hc])]
    refine Ev.bind (valid4_ev m ps.length hm) ?_
    cases hv : markB ps.length m with
    | false => simp only [if_neg (show ¬ (false = true) by decide)]; exact Ev.of fun _ => rfl
    | true =>
      have hM := markB_ok hv
      have hn := (chkNet_ok hc).2
      have hnp := hn.np
      simp only [if_true]
      refine Ev.bind (copy4_ev m (by have := hM.len; omega)) ?_
      have main : ∀ (r : List Int) (i : Nat) (out : List Int), out.length ≤ ps.length → seq.drop i = r → i ≤ seq.length → Ev (fun k => petrinetref11_Run.l0 k seq out (i : Int) nm ps ts) (runR nm ps ts i out r) := by
        intro r
        induction r with
        | nil =>
          intro i out _ hd hi
          have : i = seq.length := by
            have := congrArg List.length hd
            simp at this; omega
          refine Ev.up ?_
          simp only [petrinetref11_Run.l0, if_neg (show ¬ (i : Int) < (seq.length : Int) by omega)]
          exact Ev.of fun _ => rfl
        | cons t r ih =>
          intro i out ho hd hi
          have hlt : i < seq.length := by
            have := congrArg List.length hd
            simp at this; omega
          rw [drop_rd hlt] at hd
          injection hd with h1 h2
          refine Ev.up ?_
          simp only [petrinetref11_Run.l0, if_pos (show (i : Int) < (seq.length : Int) by omega), if_pos (show (0 : Int) ≤ (i : Int) by omega), w_succ (show i < 9223372036854775807 by omega), h1, runR]
          refine Ev.bind (refFire_ev nm ps ts out t hl hl2 hk (by omega)) ?_
          by_cases hz : (fireR nm ps ts out t).2 = 0
          · simp only [if_pos hz]; exact ih (i + 1) _ (fireR_len nm ps ts out t) h2 (by omega)
          · simp only [if_neg hz]; exact Ev.of fun _ => rfl
      exact main seq 0 m (by have := hM.len; omega) rfl (Nat.zero_le _)
  · simp only [if_neg hc]
    rw [if_pos hc]; exact Ev.of fun _ => rfl

theorem FiringRuns_ev (nm : ByteArray) (ps : List S55) (ts : List S58) (m seq : List Int) (hm : m.length ≤ 9223372036854775807) (hs : seq.length ≤ 9223372036854775807) : Ev (fun k => petrinetlaw11_FiringRuns.f k nm ps ts m seq) true := by
  have ex : ∀ (nm : ByteArray) (ps : List S55) (ts : List S58), Ev (fun k => petrinetlaw11_FiringRuns.j0 k m seq true nm ps ts) true := fun nm ps ts => by
    refine Ev.up ?_
    simp only [petrinetlaw11_FiringRuns.j0, if_true]
    exact Ev.bind example_ev (Ev.of fun _ => rfl)
  simp only [petrinetlaw11_FiringRuns.f, petrinetref09_Small.f]
  by_cases hsm : small nm ps ts
  · have h1 := hsm.1
    have h2 := hsm.2.1
    simp only [if_pos hsm, Option.bind_some, if_true]
    cases hb : decide ((seq.length : Int) > 60) with
    | true => exact ex nm ps ts
    | false =>
      refine Ev.up ?_
      simp only [petrinetlaw11_FiringRuns.j0, if_neg (show ¬ (false = true) by decide)]
      refine Ev.bind (Run_ev nm ps ts m seq (by omega) hm) ?_
      refine Ev.bind (refRun_ev nm ps ts m seq (by omega) (by omega) (small_lenOk hsm) hm hs) ?_
      have hlen : (RunR nm ps ts m seq).1.length ≤ 26 := by
        rw [RunR]
        split
        · simp
        · split
          · rename_i hv
            have := runR_len nm ps ts seq 0 m (by have := (markB_ok hv).len; omega)
            omega
          · simp
      refine Ev.bind (same_ev _ (by omega)) ?_
      simp only [if_true, beq_self_eq_true, Bool.and_self]
      exact Ev.bind example_ev (Ev.of fun _ => rfl)
  · simp only [if_neg hsm, Option.bind_some, if_neg (show ¬ (false = true) by decide)]
    exact ex _ _ _

end Go.Proofs.Ytiamncgagfjegaa.Hy
