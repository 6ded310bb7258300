/- By hand (sim_ev3, sim_law1): a part of this seat's proofs. -/
import Derived.Test.YteaimaafahpamaaXSimPure1
import Derived.Test.YteaimaafahpamaaH11
import Derived.Test.YteaimaafahpamaaH22
namespace Go.Proofs.Yteaimaafahpamaa.Hy
open Go.RowKit Go.Shelf Go.Proofs.YteaimaafahpamaaW.PrintWords Go.Proofs.YteaimaafahpamaaW.PrintLast Go.Proofs.YteaimaafahpamaaW.PrintMore
set_option linter.unusedVariables false
set_option linter.unusedSimpArgs false
attribute [local go_sem] Oper.semAt_some
/-! ### the functions of the package and of the reference -/
def simChk (nm : ByteArray) (ps : List S65) (ts : List S68) (ws : List Int) (steps : Int) : Int :=
  if (chkNet nm ps ts).1 = 0 then (if (ws.length : Int) = (ts.length : Int) then (if ws.all (fun w => decide (okW w)) = true then (if steps < 0 then 1 else if steps > 10000 then 1 else 0) else 1) else 2) else (chkNet nm ps ts).1
def wchk (ws : List Int) (steps : Int) : Int := if ws.all (fun w => decide (okW w)) = true then (if steps < 0 then 1 else if steps > 10000 then 1 else 0) else 1
theorem wchk_cons_no {w : Int} {r : List Int} {steps : Int} (h : ¬ okW w) : wchk (w :: r) steps = 1 := by
  unfold wchk; rw [if_neg]; simp [h]
theorem wchk_cons_ok {w : Int} {r : List Int} {steps : Int} (h : okW w) : wchk (w :: r) steps = wchk r steps := by
  unfold wchk; simp [h]
theorem check_ev (nm : ByteArray) (ps : List S65) (ts : List S68) (ws : List Int) (steps : Int) (hl : ws.length ≤ 9223372036854775807) : Ev (fun k => simulate_check.f k nm ps ts ws steps) (simChk nm ps ts ws steps) := by
  simp only [simulate_check.f, simChk, net_Check.f, Option.bind_some]
  by_cases hc : (chkNet nm ps ts).1 = 0
  · simp only [if_pos hc]
    by_cases hn : (ws.length : Int) = (ts.length : Int)
    · simp only [if_pos hn]
      have key := Ev.loop ws.length (fun k i => simulate_check.l0 k steps ws (ws.length : Int) (i : Int)) (fun i => wchk (ws.drop i) steps) (fun i hi ih => ?_) ?_ 0 (Nat.zero_le _)
      · exact key
      · refine Ev.up ?_
        simp only [simulate_check.l0, if_pos (show (i : Int) < (ws.length : Int) by omega), if_pos (show (0 : Int) ≤ (i : Int) by omega), w_succ (show i < 9223372036854775807 by omega)]
        rw [drop_rd hi]
        by_cases h1 : rd ws (i : Int) < 0
        · simp only [if_pos h1, wchk_cons_no (show ¬ okW (rd ws (i : Int)) by unfold okW; omega)]; exact Ev.of fun _ => rfl
        · by_cases h2 : rd ws (i : Int) > 1000
          · simp only [if_neg h1, if_pos h2, wchk_cons_no (show ¬ okW (rd ws (i : Int)) by unfold okW; omega)]; exact Ev.of fun _ => rfl
          · simp only [if_neg h1, if_neg h2, wchk_cons_ok (show okW (rd ws (i : Int)) by unfold okW; omega)]; exact ih
      · refine Ev.up ?_
        simp only [simulate_check.l0, if_neg (show ¬ (ws.length : Int) < (ws.length : Int) by omega), List.drop_length]
        refine Ev.of fun _ => ?_
        simp only [wchk, List.all_nil, if_true]
        split
        · rfl
        · split <;> rfl
    · simp only [if_neg hn]; exact Ev.of fun _ => rfl
  · simp only [if_neg hc]; exact Ev.of fun _ => rfl
def m0L (ps : List S65) : List Int := ps.map (·.f1)
theorem m0_snoc {ps : List S65} {i : Nat} (h : i < ps.length) : m0L (ps.take i) ++ [(rd_T65 ps (i : Int)).f1] = m0L (ps.take (i + 1)) := by
  unfold m0L
  rw [List.take_succ_eq_append_getElem h, List.map_append, List.map_singleton, rd_T65, Int.toNat_natCast, List.getD_eq_getElem?_getD, List.getElem?_eq_getElem h]; rfl
theorem init_ev {nm : ByteArray} {ps : List S65} {ts : List S68} (hc : (chkNet nm ps ts).1 = 0) (hn : NetOk ps ts) : Ev (fun k => net_Initial.f k nm ps ts) (m0L ps) := by
  have h24 := hn.np
  simp only [net_Initial.f, net_valid.f, net_Check.f, Option.bind_some, hc, beq_self_eq_true, if_true]
  have key := Ev.loop ps.length (fun k i => net_Initial.l0 k (m0L (ps.take i)) ps (ps.length : Int) (i : Int)) (fun _ => m0L ps) (fun i hi ih => ?_) ?_ 0 (Nat.zero_le _)
  · simpa [m0L] using key
  · refine Ev.up ?_
    simp only [net_Initial.l0, if_pos (show (i : Int) < (ps.length : Int) by omega), if_pos (show (0 : Int) ≤ (i : Int) by omega), w_succ (show i < 9223372036854775807 by omega), if_pos (show (m0L (ps.take i)).length < 17592186044416 by simp [m0L]; omega), m0_snoc hi]
    exact ih
  · refine Ev.up ?_
    simp only [net_Initial.l0, if_neg (show ¬ (ps.length : Int) < (ps.length : Int) by omega), List.take_length]
    exact Ev.of fun _ => rfl
theorem refinit_ev {nm : ByteArray} {ps : List S65} {ts : List S68} (hc : (chkNet nm ps ts).1 = 0) (hn : NetOk ps ts) (hk : lenOk ts) : Ev (fun k => petrinetref09_Initial.f k nm ps ts) (m0L ps) := by
  have h24 := hn.np
  have h25 := hn.nt
  have hv : petrinetref09_Valid.f nm ps ts = some true := by
    obtain ⟨k, hk⟩ := (refCheck_ev nm ps ts (by omega) (by omega) hk).ex
    rw [petrinetref09_Valid.f, hk, Option.bind_some, hc]; rfl
  simp only [petrinetref09_Initial.f]
  have key := Ev.loop ps.length (fun k i => petrinetref09_Initial.l0 k (m0L (ps.take i)) (i : Int) nm ps ts) (fun _ => m0L ps) (fun i hi ih => ?_) ?_ 0 (Nat.zero_le _)
  · simpa [m0L] using key
  · refine Ev.up ?_
    simp only [petrinetref09_Initial.l0, if_pos (show (i : Int) < (ps.length : Int) by omega), hv, Option.bind_some, if_true, if_pos (show (0 : Int) ≤ (i : Int) by omega), w_succ (show i < 9223372036854775807 by omega), if_pos (show (m0L (ps.take i)).length < 17592186044416 by simp [m0L]; omega), m0_snoc hi]
    exact ih
  · refine Ev.up ?_
    simp only [petrinetref09_Initial.l0, if_neg (show ¬ (ps.length : Int) < (ps.length : Int) by omega), List.take_length]
    exact Ev.of fun _ => rfl
theorem m0_ok {ps : List S65} {ts : List S68} (hn : NetOk ps ts) : MOk ps.length (m0L ps) := by
  refine ⟨by simp [m0L], fun x hx => ?_⟩
  obtain ⟨p, hp, rfl⟩ := List.mem_map.1 hx
  exact (hn.pl p hp).init
structure Chk0 (nm : ByteArray) (ps : List S65) (ts : List S68) (ws : List Int) (steps : Int) : Prop where
  net : (chkNet nm ps ts).1 = 0
  way : Way ps ts ws (m0L ps)
  st : 0 ≤ steps ∧ steps ≤ 10000
theorem simChk_zero {nm : ByteArray} {ps : List S65} {ts : List S68} {ws : List Int} {steps : Int} (h : simChk nm ps ts ws steps = 0) : Chk0 nm ps ts ws steps := by
  unfold simChk at h
  split at h
  · rename_i hc
    split at h
    · rename_i hn
      split at h
      · rename_i hw
        have hN := (chkNet_ok hc).2
        refine ⟨hc, ⟨hN, m0_ok hN, by omega, fun w hw2 => ?_⟩, ?_⟩
        · have := (List.all_eq_true.1 hw) w hw2
          simpa using this
        · split at h
          · cases h
          · split at h
            · cases h
            · omega
      · cases h
    · cases h
  · rename_i hc; exact absurd h hc
/-- a run: what is seen, the state, the error -/
noncomputable def runR' (ps : List S65) (ts : List S68) (ws : List Int) (s : Nat) (steps : Int) : List (Int × List Int) × Nat × Int := walkR ps ts ws steps.toNat (m0L ps) s
theorem runF_ev {nm : ByteArray} {ps : List S65} {ts : List S68} {ws : List Int} {steps : Int} (h : Chk0 nm ps ts ws steps) (s : Nat) : Ev (fun k => runF k nm ps ts ws (s : Int) steps) ((-1, m0L ps) :: (runR' ps ts ws s steps).1, ((runR' ps ts ws s steps).2.1 : Int), (runR' ps ts ws s steps).2.2) := by
  simp only [runF, runR']
  refine Ev.bind (init_ev h.net h.way.net) ?_
  simp only [if_pos (show (m0L ps).length = ps.length ∧ steps ≤ 1000000 from ⟨h.way.mark.len, by have := h.st; omega⟩)]
  exact Ev.bind (walk_ev h.net steps.toNat (m0L ps) s h.way) (Ev.of fun _ => rfl)
theorem walk_pos {ps : List S65} {ts : List S68} {ws : List Int} : ∀ (j : Nat) (m : List Int) (s : Nat), Way ps ts ws m → ∀ p ∈ (walkR ps ts ws j m s).1, 0 ≤ p.1 ∧ p.1 < (ts.length : Int) ∧ 0 < rd ws p.1 ∧ MOk ps.length p.2 := by
  intro j
  induction j with
  | zero => intro m s _ p hp; simp [walkR] at hp
  | succ j ih =>
    intro m s h p hp
    rw [walkR] at hp
    by_cases hz : (wgt ps ts ws m).sum = 0
    · rw [if_pos hz] at hp; simp at hp
    · rw [if_neg hz] at hp
      obtain ⟨n, e, hn, hm, hw⟩ := h.chT_spec s hz
      have hnx := fun o => h.next (s := s) (o := o) hz
      cases hro : refAfter (rd_T68 ts (chT ps ts ws m s)) m ps.length with
      | none => rw [hro] at hp; simp at hp
      | some o =>
        rw [hro] at hp
        rcases List.mem_cons.1 hp with rfl | hp
        · refine ⟨by simp only [e]; omega, by simp only [e]; omega, by simp only [e]; exact hw, (hnx o hro).mark⟩
        · exact ih o (stp s) (hnx o hro) p hp
theorem walk_len {ps : List S65} {ts : List S68} {ws : List Int} : ∀ (j : Nat) (m : List Int) (s : Nat), (walkR ps ts ws j m s).1.length ≤ j := by
  intro j
  induction j with
  | zero => intro m s; simp [walkR]
  | succ j ih =>
    intro m s
    rw [walkR]
    split
    · simp
    · cases refAfter (rd_T68 ts (chT ps ts ws m s)) m ps.length with
      | none => simp
      | some o => have := ih o (stp s); simp only [List.length_cons]; omega
theorem fired_of {m0 : List Int} {l : List (Int × List Int)} (h : ∀ p ∈ l, 0 ≤ p.1) : firedL ((-1, m0) :: l) = l.map (·.1) := by
  unfold firedL
  rw [List.filter_cons_of_neg (by simp), List.filter_eq_self.2 (fun p hp => by simpa using h p hp)]
noncomputable def SimRun (nm : ByteArray) (ps : List S65) (ts : List S68) (ws : List Int) (s : Nat) (steps : Int) : List Int × List Int × Int :=
  if simChk nm ps ts ws steps = 0 then (if (runR' ps ts ws s steps).2.2 = 0 then ((runR' ps ts ws s steps).1.map (·.1), lastL ((-1, m0L ps) :: (runR' ps ts ws s steps).1), 0) else ([], [], (runR' ps ts ws s steps).2.2)) else ([], [], simChk nm ps ts ws steps)
theorem SimRun_ev (nm : ByteArray) (ps : List S65) (ts : List S68) (ws : List Int) (s : Nat) (steps : Int) (hl : ws.length ≤ 9223372036854775807) : Ev (fun k => simulate_Run.f k nm ps ts ws (s : Int) steps) (SimRun nm ps ts ws s steps) := by
  simp only [simulate_Run.f, SimRun]
  refine Ev.bind (check_ev nm ps ts ws steps hl) ?_
  by_cases hc : simChk nm ps ts ws steps = 0
  · simp only [if_pos hc]
    have h0 := simChk_zero hc
    refine Ev.bind (runF_ev h0 s) ?_
    by_cases he : (runR' ps ts ws s steps).2.2 = 0
    · simp only [if_pos he]
      refine Ev.of fun _ => ?_
      rw [fired_of (m0 := m0L ps) (l := (runR' ps ts ws s steps).1) (fun p hp => (walk_pos _ _ _ h0.way p hp).1)]
    · simp only [if_neg he]; exact Ev.of fun _ => rfl
  · simp only [if_neg hc]; exact Ev.of fun _ => rfl
noncomputable def SimTrace (nm : ByteArray) (ps : List S65) (ts : List S68) (ws : List Int) (s : Nat) (steps : Int) : List (List Int) × Int :=
  if simChk nm ps ts ws steps = 0 then (if (runR' ps ts ws s steps).2.2 = 0 then (m0L ps :: (runR' ps ts ws s steps).1.map (·.2), 0) else ([], (runR' ps ts ws s steps).2.2)) else ([], simChk nm ps ts ws steps)
theorem SimTrace_ev (nm : ByteArray) (ps : List S65) (ts : List S68) (ws : List Int) (s : Nat) (steps : Int) (hl : ws.length ≤ 9223372036854775807) : Ev (fun k => simulate_Trace.f k nm ps ts ws (s : Int) steps) (SimTrace nm ps ts ws s steps) := by
  simp only [simulate_Trace.f, SimTrace]
  refine Ev.bind (check_ev nm ps ts ws steps hl) ?_
  by_cases hc : simChk nm ps ts ws steps = 0
  · simp only [if_pos hc]
    have h0 := simChk_zero hc
    refine Ev.bind (runF_ev h0 s) ?_
    by_cases he : (runR' ps ts ws s steps).2.2 = 0
    · simp only [if_pos he, List.map_cons]
      exact Ev.of fun _ => rfl
    · simp only [if_neg he]; exact Ev.of fun _ => rfl
  · simp only [if_neg hc]; exact Ev.of fun _ => rfl
theorem example_ev : Ev (fun k => petrinetlaw53_exampleHolds.f k) true := by
  simp only [petrinetlaw53_exampleHolds.f]
  have h := SimRun_ev (⟨#[110]⟩ : ByteArray) [(⟨(⟨#[112]⟩ : ByteArray), 1, 0⟩ : S65)] [(⟨(⟨#[116]⟩ : ByteArray), [(⟨0, 1⟩ : S70)], [], [], 0⟩ : S68)] [1] 7 9 (by simp)
  have e1 : simChk (⟨#[110]⟩ : ByteArray) [(⟨(⟨#[112]⟩ : ByteArray), 1, 0⟩ : S65)] [(⟨(⟨#[116]⟩ : ByteArray), [(⟨0, 1⟩ : S70)], [], [], 0⟩ : S68)] [1] 9 = 0 := by kernel_rfl
  have w1 : wgt [(⟨(⟨#[112]⟩ : ByteArray), 1, 0⟩ : S65)] [(⟨(⟨#[116]⟩ : ByteArray), [(⟨0, 1⟩ : S70)], [], [], 0⟩ : S68)] [1] [1] = [1] := by kernel_rfl
  have w2 : wgt [(⟨(⟨#[112]⟩ : ByteArray), 1, 0⟩ : S65)] [(⟨(⟨#[116]⟩ : ByteArray), [(⟨0, 1⟩ : S70)], [], [], 0⟩ : S68)] [1] [0] = [0] := by kernel_rfl
  have c1 : chT [(⟨(⟨#[112]⟩ : ByteArray), 1, 0⟩ : S65)] [(⟨(⟨#[116]⟩ : ByteArray), [(⟨0, 1⟩ : S70)], [], [], 0⟩ : S68)] [1] [1] 7 = 0 := by
    rw [chT, w1]; simp [idx, Int.emod_one]
  have a1 : refAfter (rd_T68 [(⟨(⟨#[116]⟩ : ByteArray), [(⟨0, 1⟩ : S70)], [], [], 0⟩ : S68)] 0) [1] 1 = some [0] := by kernel_rfl
  have r1 : runR' [(⟨(⟨#[112]⟩ : ByteArray), 1, 0⟩ : S65)] [(⟨(⟨#[116]⟩ : ByteArray), [(⟨0, 1⟩ : S70)], [], [], 0⟩ : S68)] [1] 7 9 = ([(0, [0])], stp 7, 0) := by
    rw [runR', show (9 : Int).toNat = 7 + 1 + 1 from rfl, show m0L [(⟨(⟨#[112]⟩ : ByteArray), 1, 0⟩ : S65)] = [1] from rfl, walkR, w1, if_neg (by decide), c1]
    rw [show ([(⟨(⟨#[112]⟩ : ByteArray), 1, 0⟩ : S65)] : List S65).length = 1 from rfl, a1]
    simp only []
    rw [walkR, w2, if_pos (by decide)]
  rw [SimRun, if_pos e1, r1] at h
  refine Ev.bind h ?_
  exact Ev.of fun _ => rfl

/-! ### what the laws of Simulate need besides -/
theorem walk_err {ps : List S65} {ts : List S68} {ws : List Int} : ∀ (j : Nat) (m : List Int) (s : Nat), (walkR ps ts ws j m s).2.2 = 0 ∨ (walkR ps ts ws j m s).2.2 = 3 := by
  intro j
  induction j with
  | zero => intro m s; exact .inl rfl
  | succ j ih =>
    intro m s
    rw [walkR]
    split
    · exact .inl rfl
    · cases refAfter (rd_T68 ts (chT ps ts ws m s)) m ps.length with
      | none => exact .inr rfl
      | some o => exact ih o (stp s)
theorem small_net {nm : ByteArray} {ps : List S65} {ts : List S68} (h : small nm ps ts) : ps.length ≤ 26 ∧ ts.length ≤ 26 := ⟨h.1, h.2.1⟩
theorem run_len (ps : List S65) (ts : List S68) (ws : List Int) (s : Nat) (steps : Int) (h : steps ≤ 10000) : (runR' ps ts ws s steps).1.length ≤ 10000 := by
  have := walk_len (ps := ps) (ts := ts) (ws := ws) steps.toNat (m0L ps) s
  unfold runR'
  omega
theorem last_eq (m0 : List Int) (l : List (Int × List Int)) : lastL ((-1, m0) :: l) = (m0 :: l.map (·.2)).getD ((m0 :: l.map (·.2)).length - 1) [] := by
  unfold lastL
  have e : m0 :: l.map (·.2) = ((-1, m0) :: l).map (·.2) := rfl
  rw [e, List.getD_eq_getElem?_getD, ← List.getLast?_eq_getElem?, List.getLast?_map]

end Go.Proofs.Yteaimaafahpamaa.Hy
