/- By hand (sim_fir1): a part of this seat's proofs. -/
import Derived.Test.YteaimaafahpamaaXSimEv
import Derived.Test.YteaimaafahpamaaH20
import Derived.Test.YteaimaafahpamaaH21
import Derived.Test.YteaimaafahpamaaH19
namespace Go.Proofs.Yteaimaafahpamaa.Hy
open Go.RowKit Go.Shelf Go.Proofs.YteaimaafahpamaaW.PrintWords Go.Proofs.YteaimaafahpamaaW.PrintLast Go.Proofs.YteaimaafahpamaaW.PrintMore
set_option linter.unusedVariables false
set_option linter.unusedSimpArgs false
attribute [local go_sem] Oper.semAt_some
/-! ### the reference's Fire and Run -/
theorem has_ev (l : List Int) (t : Int) (hl : l.length ≤ 9223372036854775807) : Ev (fun k => petrinetref11_has.f k l t) (memB l t) := by
  simp only [petrinetref11_has.f]
  have e : memB l t = memB (l.drop 0) t := by simp
  rw [e]
  refine Ev.loop l.length (fun k i => petrinetref11_has.l0 k l t (i : Int)) (fun i => memB (l.drop i) t) (fun i hi ih => ?_) ?_ 0 (Nat.zero_le _)
  · refine Ev.up ?_
    simp only [petrinetref11_has.l0, if_pos (show (i : Int) < (l.length : Int) by omega), if_pos (show (0 : Int) ≤ (i : Int) by omega), w_succ (show i < 9223372036854775807 by omega)]
    rw [drop_rd hi]
    by_cases h : rd l (i : Int) = t
    · simp only [if_pos h]; refine Ev.val ?_; simp [memB, h]
    · simp only [if_neg h]
      refine ih.cast ?_
      simp [memB, h]
  · refine Ev.up ?_
    simp only [petrinetref11_has.l0, if_neg (show ¬ (l.length : Int) < (l.length : Int) by omega)]
    rw [List.drop_length]; exact Ev.of fun _ => rfl
theorem refFire_ev (nm : ByteArray) (ps : List S65) (ts : List S68) (m : List Int) (t : Int) (hl : ps.length ≤ 9223372036854775807) (hl2 : ts.length ≤ 9223372036854775807) (hk : lenOk ts) (hm : m.length ≤ 9223372036854775807) : Ev (fun k => petrinetref11_Fire.f k nm ps ts m t) (fireR nm ps ts m t) := by
  simp only [petrinetref11_Fire.f]
  refine Ev.bind (refCheck_ev nm ps ts hl hl2 hk) ?_
  rw [fireR]
  by_cases hc : (chkNet nm ps ts).1 = 0
  · simp only [if_pos hc]
    rw [if_neg (by simp [hc])]
    have hn := (chkNet_ok hc).2
    refine Ev.bind (valid4_ev m ps.length hm) ?_
    cases hv : markB ps.length m with
    | false => simp only [if_neg (show ¬ (false = true) by decide), if_true]; exact Ev.of fun _ => rfl
    | true =>
      have hM := markB_ok hv
      simp only [if_true]
      rw [if_neg (by simp)]
      have bad : t < 0 ∨ t ≥ (ts.length : Int) → Ev (fun k => petrinetref11_Fire.j0 k m t true nm ps ts) (([] : List Int), (1 : Int)) := fun h => Ev.up (Ev.of fun _ => by simp [petrinetref11_Fire.j0])
      by_cases h1 : t < 0
      · simp only [if_pos h1]; rw [if_pos (.inl h1)]; exact bad (.inl h1)
      · simp only [if_neg h1]
        by_cases h2 : t ≥ (ts.length : Int)
        · simp only [decide_eq_true h2]; rw [if_pos (.inr h2)]; exact bad (.inr h2)
        · simp only [decide_eq_false h2]
          rw [if_neg (by omega)]
          refine Ev.up ?_
          simp only [petrinetref11_Fire.j0, if_neg (show ¬ (false = true) by decide)]
          refine Ev.bind (fires_ev nm ps ts m (by have := hn.nt; omega) (by have := hM.len; omega)) ?_
          refine Ev.bind (has_ev _ t (by have := firesN_len ps ts m; omega)) ?_
          cases hb : memB (firesN ps ts m) t with
          | false => simp only [if_neg (show ¬ (false = true) by decide), if_true]; exact Ev.of fun _ => rfl
          | true =>
            simp only [if_true]
            rw [if_neg (by simp)]
            have hA : petrinetref11_After.f nm ps ts m t = some ((refAfter (rd_T68 ts t) m ps.length).getD [], (refAfter (rd_T68 ts t) m ps.length).isSome) := if_pos ⟨by omega, by omega, by have := hM.len; omega, by have := hn.np; omega⟩
            simp only [hA, Option.bind_some]
            cases refAfter (rd_T68 ts t) m ps.length with
            | none => exact Ev.of fun _ => rfl
            | some o => exact Ev.of fun _ => rfl
  · simp only [if_neg hc]
    rw [if_pos hc]; exact Ev.of fun _ => rfl
def runR (nm : ByteArray) (ps : List S65) (ts : List S68) : Nat → List Int → List Int → List Int × Int × Int
  | _, out, [] => (out, 0, 0)
  | i, out, t :: r => if (fireR nm ps ts out t).2 = 0 then runR nm ps ts (i + 1) (fireR nm ps ts out t).1 r else ([], (fireR nm ps ts out t).2, (i : Int))
def RunR (nm : ByteArray) (ps : List S65) (ts : List S68) (m seq : List Int) : List Int × Int × Int :=
  if (chkNet nm ps ts).1 ≠ 0 then ([], (chkNet nm ps ts).1, 0) else if markB ps.length m = true then runR nm ps ts 0 m seq else ([], 2, 0)
theorem runR_len (nm : ByteArray) (ps : List S65) (ts : List S68) : ∀ (seq : List Int) (i : Nat) (out : List Int), out.length ≤ ps.length → (runR nm ps ts i out seq).1.length ≤ ps.length := by
  intro seq
  induction seq with
  | nil => intro i out h; exact h
  | cons t r ih =>
    intro i out h
    rw [runR]
    split
    · exact ih _ _ (fireR_len nm ps ts out t)
    · simp
theorem copy4_ev (l : List Int) (hl : l.length ≤ 1000) : Ev (fun k => petrinetref04_Copy.f k l) l := by
  simp only [petrinetref04_Copy.f]
  have key := Ev.loop l.length (fun k i => petrinetref04_Copy.l0 k l (l.take i) (i : Int)) (fun _ => l) (fun i hi ih => ?_) ?_ 0 (Nat.zero_le _)
  · simpa using key
  · refine Ev.up ?_
    simp only [petrinetref04_Copy.l0, if_pos (show (i : Int) < (l.length : Int) by omega), if_pos (show (0 : Int) ≤ (i : Int) by omega), w_succ (show i < 9223372036854775807 by omega), if_pos (show (l.take i).length < 17592186044416 by have : (l.take i).length ≤ i := List.length_take_le _ _; omega)]
    have e : l.take i ++ [rd l (i : Int)] = l.take (i + 1) := by
      rw [List.take_succ_eq_append_getElem hi, rd_nat, List.getD_eq_getElem?_getD, List.getElem?_eq_getElem hi]; rfl
    simp only [e]; exact ih
  · refine Ev.up ?_
    simp only [petrinetref04_Copy.l0, if_neg (show ¬ (l.length : Int) < (l.length : Int) by omega)]
    rw [List.take_length]; exact Ev.of fun _ => rfl
theorem refRun_ev (nm : ByteArray) (ps : List S65) (ts : List S68) (m seq : List Int) (hl : ps.length ≤ 9223372036854775807) (hl2 : ts.length ≤ 9223372036854775807) (hk : lenOk ts) (hm : m.length ≤ 9223372036854775807) (hs : seq.length ≤ 9223372036854775807) : Ev (fun k => petrinetref11_Run.f k nm ps ts m seq) (RunR nm ps ts m seq) := by
  simp only [petrinetref11_Run.f, RunR]
  refine Ev.bind (refCheck_ev nm ps ts hl hl2 hk) ?_
  by_cases hc : (chkNet nm ps ts).1 = 0
  · simp only [if_pos hc]
    rw [if_neg (by simp [hc])]
    refine Ev.bind (valid4_ev m ps.length hm) ?_
    cases hv : markB ps.length m with
    | false => simp only [if_neg (show ¬ (false = true) by decide)]; exact Ev.of fun _ => rfl
    | true =>
      have hM := markB_ok hv
      have hn := (chkNet_ok hc).2
      have hnp := hn.np
      simp only [if_true]
      refine Ev.bind (copy4_ev m (by have := hM.len; omega)) ?_
      have main : ∀ (r : List Int) (i : Nat) (out : List Int), out.length ≤ ps.length → seq.drop i = r → i ≤ seq.length → Ev (fun k => petrinetref11_Run.l0 k seq out (i : Int) nm ps ts) (runR nm ps ts i out r) := by
        intro r
        induction r with
        | nil =>
          intro i out _ hd hi
          have : i = seq.length := by
            have := congrArg List.length hd
            simp at this; omega
          refine Ev.up ?_
          simp only [petrinetref11_Run.l0, if_neg (show ¬ (i : Int) < (seq.length : Int) by omega)]
          exact Ev.of fun _ => rfl
        | cons t r ih =>
          intro i out ho hd hi
          have hlt : i < seq.length := by
            have := congrArg List.length hd
            simp at this; omega
          rw [drop_rd hlt] at hd
          injection hd with h1 h2
          refine Ev.up ?_
          simp only [petrinetref11_Run.l0, if_pos (show (i : Int) < (seq.length : Int) by omega), if_pos (show (0 : Int) ≤ (i : Int) by omega), w_succ (show i < 9223372036854775807 by omega), h1, runR]
          refine Ev.bind (refFire_ev nm ps ts out t hl hl2 hk (by omega)) ?_
          by_cases hz : (fireR nm ps ts out t).2 = 0
          · simp only [if_pos hz]; exact ih (i + 1) _ (fireR_len nm ps ts out t) h2 (by omega)
          · simp only [if_neg hz]; exact Ev.of fun _ => rfl
      exact main seq 0 m (by have := hM.len; omega) rfl (Nat.zero_le _)
  · simp only [if_neg hc]
    rw [if_pos hc]; exact Ev.of fun _ => rfl

end Go.Proofs.Yteaimaafahpamaa.Hy
