/- By hand (sim_law4): a part of this seat's proofs. -/
import Derived.Test.YteaimaafahpamaaXSimLaw3
namespace Go.Proofs.Yteaimaafahpamaa.Hy
open Go.RowKit Go.Shelf Go.Proofs.YteaimaafahpamaaW.PrintWords Go.Proofs.YteaimaafahpamaaW.PrintLast Go.Proofs.YteaimaafahpamaaW.PrintMore
set_option linter.unusedVariables false
set_option linter.unusedSimpArgs false
attribute [local go_sem] Oper.semAt_some
/-! ### SimulateMany: what Many comes to -/
noncomputable def manyR (ps : List S65) (ts : List S68) (ws : List Int) (steps : Int) : Nat → List Int → List Int → Int → Nat → List Int × Int × List Int × Int
  | 0, F, M, d, _ => (F, d, M, 0)
  | j + 1, F, M, d, s => if (runR' ps ts ws s steps).2.2 = 0 then manyR ps ts ws steps j ((runR' ps ts ws s steps).1.foldl firS F) (topL M (m0L ps :: (runR' ps ts ws s steps).1.map (·.2))) (if ((runR' ps ts ws s steps).1.length : Int) < steps then wrap64 (d + 1) else d) (runR' ps ts ws s steps).2.1 else ([], 0, [], 3)
theorem manyL_ev {nm : ByteArray} {ps : List S65} {ts : List S68} {ws : List Int} {steps : Int} (h0 : Chk0 nm ps ts ws steps) : ∀ (j : Nat) (F M : List Int) (d : Int) (s : Nat), Ev (fun k => manyL k nm ps ts ws steps j F M d (s : Int)) (manyR ps ts ws steps j F M d s) := by
  intro j
  induction j with
  | zero => intro F M d s; exact Ev.of fun _ => rfl
  | succ j ih =>
    intro F M d s
    have hrl := run_len ps ts ws s steps h0.st.2
    have hpos := walk_pos steps.toNat (m0L ps) s h0.way
    simp only [manyL, manyR]
    refine Ev.bind (runF_ev h0 s) ?_
    by_cases he : (runR' ps ts ws s steps).2.2 = 0
    · have e1 : ((-1, m0L ps) :: (runR' ps ts ws s steps).1).foldl firS F = (runR' ps ts ws s steps).1.foldl firS F := by rw [List.foldl_cons, firS, if_neg (show ¬ (0 : Int) ≤ -1 by decide)]
      have e2 : ((-1, m0L ps) :: (runR' ps ts ws s steps).1).foldl cntS 0 = ((runR' ps ts ws s steps).1.length : Int) := by
        rw [List.foldl_cons, cntS, if_neg (show ¬ (0 : Int) ≤ -1 by decide), cnt_fold (runR' ps ts ws s steps).1 0 (fun p hp => (hpos p hp).1) (by omega) (by omega)]; omega
      have e3 : ((-1, m0L ps) :: (runR' ps ts ws s steps).1).foldl maxS M = topL M (m0L ps :: (runR' ps ts ws s steps).1.map (·.2)) := by rw [max_fold]; rfl
      simp only [if_pos he, e1, e2, e3]
      exact ih _ _ _ _
    · have he3 : (runR' ps ts ws s steps).2.2 = 3 := (walk_err (ps := ps) (ts := ts) (ws := ws) steps.toNat (m0L ps) s).resolve_left he
      simp only [if_neg he, he3]
      exact Ev.of fun _ => rfl
/-- from nothing and from the initial marking it comes to the same -/
theorem manyR_start {nm : ByteArray} {ps : List S65} {ts : List S68} {ws : List Int} {steps : Int} (h0 : Chk0 nm ps ts ws steps) (j : Nat) (F : List Int) (d : Int) (s : Nat) : manyR ps ts ws steps (j + 1) F (List.replicate ps.length 0) d s = manyR ps ts ws steps (j + 1) F (m0L ps) d s := by
  have e : topL (List.replicate ps.length 0) (m0L ps :: (runR' ps ts ws s steps).1.map (·.2)) = topL (m0L ps) (m0L ps :: (runR' ps ts ws s steps).1.map (·.2)) := by
    show topL (List.zipWith mx (List.replicate ps.length 0) (m0L ps)) _ = topL (List.zipWith mx (m0L ps) (m0L ps)) _
    have := zip_zero (m0L ps) (fun x hx => (h0.way.mark.bd x hx).1)
    rw [h0.way.mark.len] at this
    rw [this, zip_self]
  rw [manyR, manyR, e]
noncomputable def SimMany (nm : ByteArray) (ps : List S65) (ts : List S68) (ws : List Int) (s : Nat) (steps runs : Int) : List Int × Int × List Int × Int :=
  if simChk nm ps ts ws steps = 0 then (if runs < 1 ∨ runs > 100 then ([], 0, [], 1) else manyR ps ts ws steps runs.toNat (List.replicate ts.length 0) (m0L ps) 0 s) else ([], 0, [], simChk nm ps ts ws steps)
theorem SimMany_ev (nm : ByteArray) (ps : List S65) (ts : List S68) (ws : List Int) (s : Nat) (steps runs : Int) (hl : ws.length ≤ 9223372036854775807) : Ev (fun k => simulate_Many.f k nm ps ts ws (s : Int) steps runs) (SimMany nm ps ts ws s steps runs) := by
  simp only [simulate_Many.f, SimMany]
  refine Ev.bind (check_ev nm ps ts ws steps hl) ?_
  by_cases hc : simChk nm ps ts ws steps = 0
  · have h0 := simChk_zero hc
    have h24 := h0.way.net.np
    have h25 := h0.way.net.nt
    simp only [if_pos hc]
    by_cases hr : runs < 1 ∨ runs > 100
    · simp only [if_pos hr]; exact Ev.of fun _ => rfl
    · obtain ⟨j, hj⟩ : ∃ j, runs.toNat = j + 1 := ⟨runs.toNat - 1, by omega⟩
      simp only [if_neg hr, if_pos (show ps.length ≤ 1000000 ∧ ts.length ≤ 1000000 by omega)]
      have := manyL_ev h0 runs.toNat (List.replicate ts.length 0) (List.replicate ps.length 0) 0 s
      rw [hj, manyR_start h0] at this
      rw [hj]
      exact this
  · simp only [if_neg hc]; exact Ev.of fun _ => rfl

end Go.Proofs.Yteaimaafahpamaa.Hy
