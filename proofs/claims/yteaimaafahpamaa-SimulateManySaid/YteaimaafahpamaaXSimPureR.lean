/- By hand (sim_evr): a part of this seat's proofs. -/
import Derived.Test.YteaimaafahpamaaXSimPure2
import Derived.Test.YteaimaafahpamaaXSimRandR
import Derived.Test.YteaimaafahpamaaXRefSim
import Derived.Test.YteaimaafahpamaaH25
namespace Go.Proofs.Yteaimaafahpamaa.Hy
open Go.RowKit Go.Shelf Go.Proofs.YteaimaafahpamaaW.PrintWords Go.Proofs.YteaimaafahpamaaW.PrintLast Go.Proofs.YteaimaafahpamaaW.PrintMore
set_option linter.unusedVariables false
set_option linter.unusedSimpArgs false
attribute [local go_sem] Oper.semAt_some
/-! ### the reference's functions -/
theorem refwalk_ev {nm : ByteArray} {ps : List S65} {ts : List S68} {ws : List Int} : ∀ (j : Nat) (m : List Int) (s : Nat) (F : List Int) (MM : List (List Int)), Way ps ts ws m → Ev (fun k => refRunL k nm ps ts ws j m (s : Int) F MM) (if (walkR ps ts ws j m s).2.2 = 0 then (F ++ (walkR ps ts ws j m s).1.map (·.1), MM ++ (walkR ps ts ws j m s).1.map (·.2), ((walkR ps ts ws j m s).2.1 : Int), true) else ([], [], 0, false)) := by
  intro j
  induction j with
  | zero => intro m s F MM _; refine Ev.of fun _ => ?_; simp [refRunL, walkR]
  | succ j ih =>
    intro m s F MM h
    have h24 := h.net.nt
    simp only [refRunL, walkR]
    refine Ev.bind (fires_ev nm ps ts m (by omega) (by rw [h.mark.len]; exact Nat.le_refl _)) ?_
    have hml := h.may_len
    simp only [if_pos (show (∀ t ∈ firesN ps ts m, 0 ≤ t ∧ t < (ws.length : Int)) ∧ (firesN ps ts m).length ≤ 1000000 from ⟨h.may_lt, by omega⟩), h.smay]
    by_cases hz : (wgt ps ts ws m).sum = 0
    · simp only [if_pos hz, if_true, List.map_nil, List.append_nil]
      exact Ev.of fun _ => rfl
    · obtain ⟨n, e, hn, hm, _⟩ := h.chT_spec s hz
      have hnx := fun o => h.next (s := s) (o := o) hz
      have hch := h.cho_eq s
      rw [if_neg hz] at hch
      simp only [if_neg hz]
      rw [e] at hnx hch
      simp only [e]
      have hcv : Ev (fun k => petrinetref52_Choose.f k (s : Int) (wmayL ws (firesN ps ts m))) ((n : Int), ((stp s : Nat) : Int)) := ⟨600, fun k hk => by
        have hl := h.wgt_len
        have := h.len
        show petrinetref52_Choose.f k (s : Int) (wmayL ws (firesN ps ts m)) = _
        rw [rchoose_eq k s _ hk (by show (wgt ps ts ws m).length ≤ 64; omega)]
        exact congrArg some hch⟩
      refine Ev.bind hcv ?_
      have haf : petrinetref11_After.f nm ps ts m (n : Int) = some ((refAfter (rd_T68 ts (n : Int)) m ps.length).getD [], (refAfter (rd_T68 ts (n : Int)) m ps.length).isSome) := by
        rw [petrinetref11_After.f, if_pos]
        have := h.mark.len
        have := h.net.np
        refine ⟨?_, ?_, ?_, ?_⟩ <;> omega
      simp only [haf, Option.bind_some]
      cases hro : refAfter (rd_T68 ts (n : Int)) m ps.length with
      | none => simp only [Option.isSome_none, if_neg (show ¬ (false = true) by decide), if_neg (show ¬ (3 : Int) = 0 by decide)]; exact Ev.of fun _ => rfl
      | some o =>
        simp only [Option.isSome_some, if_true, Option.getD_some]
        have := ih o (stp s) (F ++ [(n : Int)]) (MM ++ [o]) (hnx o hro)
        simp only [List.append_assoc, List.singleton_append] at this
        simp only [List.map_cons]
        exact this
theorem refcheck_ev (nm : ByteArray) (ps : List S65) (ts : List S68) (ws : List Int) (steps : Int) (hl : ws.length ≤ 9223372036854775807) (hl1 : ps.length ≤ 9223372036854775807) (hl2 : ts.length ≤ 9223372036854775807) (hk : lenOk ts) : Ev (fun k => petrinetref53_Check.f k nm ps ts ws steps) (simChk nm ps ts ws steps) := by
  simp only [petrinetref53_Check.f, simChk]
  refine Ev.bind (refCheck_ev nm ps ts hl1 hl2 hk) ?_
  by_cases hc : (chkNet nm ps ts).1 = 0
  · simp only [if_pos hc]
    by_cases hn : (ws.length : Int) = (ts.length : Int)
    · simp only [if_pos hn]
      have key := Ev.loop ws.length (fun k i => petrinetref53_Check.l0 k ws steps (i : Int)) (fun i => wchk (ws.drop i) steps) (fun i hi ih => ?_) ?_ 0 (Nat.zero_le _)
      · exact key
      · refine Ev.up ?_
        simp only [petrinetref53_Check.l0, if_pos (show (i : Int) < (ws.length : Int) by omega), if_pos (show (0 : Int) ≤ (i : Int) by omega), w_succ (show i < 9223372036854775807 by omega)]
        rw [drop_rd hi]
        by_cases h1 : rd ws (i : Int) < 0
        · simp only [if_pos h1, wchk_cons_no (show ¬ okW (rd ws (i : Int)) by unfold okW; omega)]; exact Ev.of fun _ => rfl
        · by_cases h2 : rd ws (i : Int) > 1000
          · simp only [if_neg h1, if_pos h2, wchk_cons_no (show ¬ okW (rd ws (i : Int)) by unfold okW; omega)]; exact Ev.of fun _ => rfl
          · simp only [if_neg h1, if_neg h2, wchk_cons_ok (show okW (rd ws (i : Int)) by unfold okW; omega)]; exact ih
      · refine Ev.up ?_
        simp only [petrinetref53_Check.l0, if_neg (show ¬ (ws.length : Int) < (ws.length : Int) by omega), List.drop_length]
        refine Ev.of fun _ => ?_
        simp only [wchk, List.all_nil, if_true]
        split
        · rfl
        · split <;> rfl
    · simp only [if_neg hn]; exact Ev.of fun _ => rfl
  · simp only [if_neg hc]; exact Ev.of fun _ => rfl
noncomputable def SimRef (ps : List S65) (ts : List S68) (ws : List Int) (s : Nat) (steps : Int) : List Int × List (List Int) × Int × Bool :=
  if (runR' ps ts ws s steps).2.2 = 0 then ((runR' ps ts ws s steps).1.map (·.1), m0L ps :: (runR' ps ts ws s steps).1.map (·.2), ((runR' ps ts ws s steps).2.1 : Int), true) else ([], [], 0, false)
theorem SimRef_ev {nm : ByteArray} {ps : List S65} {ts : List S68} {ws : List Int} {steps : Int} (h : Chk0 nm ps ts ws steps) (hk : lenOk ts) (s : Nat) : Ev (fun k => petrinetref53_Run.f k nm ps ts ws (s : Int) steps) (SimRef ps ts ws s steps) := by
  simp only [petrinetref53_Run.f]
  refine Ev.bind (refinit_ev h.net h.way.net hk) ?_
  have := h.way.len
  have := h.way.net.nt
  simp only [if_pos (show steps ≤ 1000000 ∧ ws.length ≤ 1000000 from ⟨by have := h.st; omega, by omega⟩)]
  have := refwalk_ev (nm := nm) steps.toNat (m0L ps) s [] [m0L ps] h.way
  simp only [List.nil_append, List.singleton_append] at this
  exact this

end Go.Proofs.Yteaimaafahpamaa.Hy
