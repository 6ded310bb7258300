/- A part of this seat's proofs: texts joined by merge.py. -/
import Derived.Test.YteaimaafahpamaaXBase
import Derived.WalkMore
import Derived.Deep.LoopGhost
import Derived.Test.YteaimaafahpamaaH7
import Derived.Test.YteaimaafahpamaaH9
import Derived.Test.YteaimaafahpamaaH10
import Derived.Test.YteaimaafahpamaaH8
/- By hand (sim_run): a part of this seat's proofs. -/
namespace Go.Proofs.Yteaimaafahpamaa.Hy
open Go.RowKit Go.Shelf Go.Proofs.YteaimaafahpamaaW.PrintWords Go.Proofs.YteaimaafahpamaaW.PrintLast Go.Proofs.YteaimaafahpamaaW.PrintMore
set_option linter.unusedVariables false
set_option linter.unusedSimpArgs false
attribute [local go_sem] Oper.semAt_some
/-! ### simulate.run: what it shows to see -/
def walkL (k : Nat) (nm : ByteArray) (ps : List S65) (ts : List S68) (ws : List Int) : Nat → List Int → Int → Option (List (Int × List Int) × Int × Int)
  | 0, _, s => some ([], s, 0)
  | j + 1, m, s => (simulate_choose.f k nm ps ts ws m s).bind fun z => if z.1 < 0 then some ([], s, 0) else (firing_Fire.f k nm ps ts m z.1).bind fun y => if y.2 = 0 then (if z.1 < (ts.length : Int) ∧ y.1.length = ps.length then (walkL k nm ps ts ws j y.1 z.2).bind fun r => some ((z.1, y.1) :: r.1, r.2.1, r.2.2) else none) else some ([], 0, y.2)
theorem walkL_mono (nm : ByteArray) (ps : List S65) (ts : List S68) (ws : List Int) (k : Nat) : ∀ (j : Nat) (m : List Int) (s : Int), LeO (walkL k nm ps ts ws j m s) (walkL (k + 1) nm ps ts ws j m s) := by
  intro j
  induction j with
  | zero => intro m s; exact LeO.refl _
  | succ j ih => intro m s; exact LeO.bind (simulate_choose.mono _ _ _ _ _ _ _) (fun z => LeO.ite (LeO.refl _) (LeO.bind (firing_Fire.mono _ _ _ _ _ _) (fun y => LeO.ite (LeO.ite (LeO.bind (ih _ _) (fun _ => LeO.refl _)) (LeO.refl _)) (LeO.refl _))))
def runF (k : Nat) (nm : ByteArray) (ps : List S65) (ts : List S68) (ws : List Int) (s steps : Int) : Option (List (Int × List Int) × Int × Int) :=
  (net_Initial.f k nm ps ts).bind fun m0 => if m0.length = ps.length ∧ steps ≤ 1000000 then (walkL k nm ps ts ws steps.toNat m0 s).bind fun r => some ((-1, m0) :: r.1, r.2.1, r.2.2) else none
theorem runF_mono (nm : ByteArray) (ps : List S65) (ts : List S68) (ws : List Int) (s steps : Int) (k : Nat) : LeO (runF k nm ps ts ws s steps) (runF (k + 1) nm ps ts ws s steps) :=
  LeO.bind (net_Initial.mono _ _ _ _) (fun m0 => LeO.ite (LeO.bind (walkL_mono _ _ _ _ _ _ _ _) (fun _ => LeO.refl _)) (LeO.refl _))
/-- what run asks of see: I l own W = what see keeps after it has been shown l, in the world W, own = the blocks that it may write -/
structure SeeOk (f : Nat) (lb : Array Value) (N T B : Nat) (I : List (Int × List Int) → (Nat → Prop) → World → Prop) : Prop where
  lt : ∀ l own W k, I l own W → own k → k < W.heap.size
  lo : ∀ l own W k, I l own W → own k → B ≤ k
  step : ∀ l own W W', I l own W → Below W.heap.size W W' → I l own W'
  call : ∀ l own W1 W vm m t, I l own W1 → Below W1.heap.size W1 W → Kd.R (Kd.int .i64) 3 W W1.heap.size (fun _ => True) vm m → m.length = N → (t = -1 ∨ (0 ≤ t ∧ t < (T : Int))) → l.length ≤ 1000001 →
    Calls Try.prog f (#[.int .i64 t, vm] ++ lb) W fun e W' => e = .returned (.tuple #[]) ∧ ∃ own', I (l ++ [(t, m)]) own' W' ∧ Chg own W W' ∧ ∀ k, own' k → own k ∨ W.heap.size ≤ k
theorem Chg.below_self {S : Nat → Prop} {A B C : World} (h : Chg S A B) (hb : Below B.heap.size B C) : Chg S A C := h.trans (Chg.of_below hb S)
theorem Chg.join {S S' : Nat → Prop} {A B C : World} (h : Chg S A B) (k : Chg S' B C) (hs : ∀ q, S' q → S q ∨ A.heap.size ≤ q) : Chg S A C :=
  ⟨k.os.trans h.os, k.tape.trans h.tape, k.output.trans h.output, Nat.le_trans h.size k.size, fun i hi hn => (k.block i (Nat.lt_of_lt_of_le hi h.size) (fun h2 => (hs i h2).elim hn (fun h3 => by omega))).trans (h.block i hi hn)⟩
theorem C_of_R_chg {W W' : World} {B : Nat} {S : Nat → Prop} {v : Value} {m : List Int} (h : Kd.R (Kd.int .i64) 3 W B (fun _ => True) v m) (hc : Chg S W W') (hs : ∀ q, S q → q < B) :
    ∃ A c, v = .slice A m.length c ∧ m.length ≤ c ∧ Kd.C (Kd.int .i64) W' A m.length m :=
  Kd.R_reads (Kd.R_kept (Kd.R_mono (Kd.R_bound h) (ok' := fun q => B ≤ q) (fun q hq => hq.2.1)) ⟨hc.size, hc.block⟩ (fun q hq hS => by have := hs q hS; omega))
set_option maxRecDepth 100000 in
set_option maxHeartbeats 8000000 in
theorem simrun_in (k : Nat) (nm : ByteArray) (A1 : Option Addr) (c1 : Nat) (ps : List S65) (A2 : Option Addr) (c2 : Nat) (ts : List S68) (Aw : Option Addr) (cw : Nat) (ws : List Int) (s steps : Int) (f : Nat) (lb : Array Value)
    (I : List (Int × List Int) → (Nat → Prop) → World → Prop) (own0 : Nat → Prop) (l : List (Int × List Int)) (s' e' : Int) (wb w : World) (hb : Below wb.heap.size wb w)
    (hp : Kd.C k65 wb A1 ps.length ps) (hc1 : ps.length ≤ c1) (hts : Kd.C k68 wb A2 ts.length ts) (hc2 : ts.length ≤ c2) (hw : Kd.C (Kd.int .i64) wb Aw ws.length ws) (hcw : ws.length ≤ cw)
    (hs : SeeOk f lb ps.length ts.length wb.heap.size I) (hI : I [] own0 w) (ef : ∀ args w, (callFunc f args).run Try.prog w = .ok (.enter f args) w)
    (h : runF k nm ps ts ws s steps = some (l, s', e')) :
    Calls Try.prog 24 #[.agg #[.string nm, .slice A1 ps.length c1, .slice A2 ts.length c2], .slice Aw ws.length cw, .int .u64 s, .int .i64 steps, .func (.func f) #[] lb] w fun e W' =>
      e = .returned (.tuple #[.int .u64 s', .int .i64 e']) ∧ ∃ own, I l own W' ∧ Chg own0 w W' ∧ ∀ k, own k → own0 k ∨ w.heap.size ≤ k := by
  have H0 := (Held.of_below hb).push (.cells #[.string nm, .slice A1 ps.length c1, .slice A2 ts.length c2] 25)
  obtain ⟨m0, hini, h2⟩ := Option.bind_eq_some_iff.mp h
  have hli := Aside0.mk ((net_Initial.calls k nm A1 c1 ps A2 c2 ts m0 _ (Kd.C_below hp H0.bel) hc1 (Kd.C_below hts H0.bel) hc2 hini))
  clear h hini
  split at h2
  rotate_left
  · cases h2
  rename_i hm0
  obtain ⟨hm0, hst⟩ := hm0
  obtain ⟨⟨l1, s1, e1⟩, hwk, h3⟩ := Option.bind_eq_some_iff.mp h2
  injection h3 with h3
  injection h3 with h3 h4
  injection h4 with h4 h5
  simp only at h3 h4 h5
  subst h4 h5
  replace hwk := Aside0.mk hwk
  replace h3 := Aside0.mk h3
  replace hm0 := Aside0.mk hm0
  have hs' := Aside0.mk hs
  have hW0 := Aside0.mk (Chg.of_below (below_alloc (Below.refl w.heap.size w) (.cells #[.string nm, .slice A1 ps.length c1, .slice A2 ts.length c2] 25)) own0)
  have hI' := Aside0.mk hI
  replace hb := Aside0.mk hb
  have nd0 := H0.cell 0 0 rfl rfl
  have nd1 := H0.cell 0 1 rfl rfl
  have nd2 := H0.cell 0 2 rfl rfl
  replace H0 := Aside0.mk H0
  clear h2 hs hI
  go_enter Try.func24, Try.ntmps24
  go_wp2
  go_step3
  go_wp2_with (go_at_call 38; refine hli.out.mono ?_; rintro e W ⟨v, rfl, hR, hbW⟩)
  have hsz : (w.alloc (.cells #[.string nm, .slice A1 ps.length c1, .slice A2 ts.length c2] 25)).heap.size = w.heap.size + 1 := by simp
  have hb1 : Below w.heap.size w W := (below_alloc (Below.refl w.heap.size w) _).trans (hbW.mono (by omega))
  have H1 := Aside0.mk (H0.out.below hbW)
  have hcall := Aside0.mk (hs'.out.call [] own0 w W v m0 (-1) hI'.out hb1 (Kd.R_lower hR (by omega)) hm0.out (.inl rfl) (by simp))
  have hR0 := Aside0.mk hR
  have hlt0 := Aside0.mk (fun k (hk : own0 k) => hs'.out.lt _ _ _ k hI'.out hk)
  have hlo0 := Aside0.mk (fun k (hk : own0 k) => hs'.out.lo _ _ _ k hI'.out hk)
  have hown0 := Aside0.mk (fun k (hk : own0 k) => show k ≠ w.heap.size by have := hs'.out.lt _ _ _ k hI'.out hk; omega)
  have hbS := Aside0.mk (show w.heap.size + 1 ≤ W.heap.size by have := hbW.size; omega)
  have hbx := Aside0.mk hb1
  clear hli hR hbW hsz hb1 hI' nd0 nd1 nd2
  go_wp2_with fail
  refine hcall.out.mono ?_
  rintro e W2 ⟨rfl, own, hIo, hch, hown⟩
  have hk1 : ∀ k, own k → own0 k ∨ w.heap.size + 1 ≤ k := fun k hk => (hown k hk).imp id (fun h => by have := hbS.out; omega)
  obtain ⟨Am, cm, rfl, hcm, hCm⟩ := C_of_R_chg hR0.out hch (fun q hq => by have := hlt0.out q hq; simp; omega)
  have H2 := Aside0.mk (H1.out.chg hch hlo0.out (fun p hp hq => by rcases List.mem_singleton.1 hp with rfl; have := hlt0.out _ hq; simp at this))
  have hC2 := Aside0.mk ((Chg.of_below hbx.out own0).trans hch)
  replace hIo := Aside0.mk hIo
  replace hk1 := Aside0.mk hk1
  replace hCm := Aside0.mk hCm
  clear hcall hown hch hR0
  go_wp2
  go_step3
  go_wp2
  go_loopg [2, 12, 13] steps.toNat (fun kx sv v i wr => ∃ (j : Nat) (sd : Int) (m : List Int) (l0 l1 : List (Int × List Int)) (own : Nat → Prop) (Am : Option Addr) (cm : Nat), sv = .int .u64 sd ∧ i = .int .i64 j ∧ v = .slice Am m.length cm ∧ j ≤ steps.toNat ∧ steps.toNat - j ≤ kx ∧ m.length ≤ cm ∧
    Aside0 (walkL k nm ps ts ws (steps.toNat - j) m sd = some (l1, s1, e1)) ∧ Aside0 (l = l0 ++ l1 ∧ l0.length = j + 1) ∧ Aside0 (I l0 own wr) ∧ Aside0 (∀ k, own k → own0 k ∨ w.heap.size + 1 ≤ k) ∧ Aside0 (Chg own0 w wr) ∧ Aside0 (Kd.C (Kd.int .i64) wr Am m.length m) ∧
    Aside0 (Held wb [(w.heap.size, .cells #[.string nm, .slice A1 ps.length c1, .slice A2 ts.length c2] 25 (0, 0))] wr))
  case atStart =>
    refine ⟨0, s, m0, [(-1, m0)], l1, own, Am, cm, rfl, rfl, rfl, Nat.zero_le _, by omega, hcm, hwk, ⟨h3.out.symm, rfl⟩, hIo, hk1, hC2, hCm, H2⟩
  case round =>
    clear hIo hk1 hC2 hCm H2 hwk h3 hcm H0 H1 hW0 hlt0 hlo0 hbS hbx hm0
    obtain ⟨j, sd, m, l0, l1, own, Am, cm, rfl, rfl, rfl, hj, hkx, hcm, hwk, hl, hIo, hk1, hC, hCm, hH⟩ := hrel
    have nd0 := hH.out.cell 0 0 rfl rfl
    have nd1 := hH.out.cell 0 1 rfl rfl
    have nd2 := hH.out.cell 0 2 rfl rfl
    by_cases hlt : (j : Int) < steps
    · have d1 : decide ((j : Int) < steps) = true := decide_eq_true hlt
      obtain ⟨q, hq⟩ : ∃ q, steps.toNat - j = q + 1 := ⟨steps.toNat - j - 1, by omega⟩
      have hq2 := Aside0.mk (show steps.toNat - (j + 1) = q by omega)
      have hj2 := Aside0.mk (show j + 1 ≤ steps.toNat by omega)
      have hj3 := Aside0.mk (show j + 1 ≤ 1000001 by omega)
      have hwk2 := hwk.out
      rw [hq, walkL] at hwk2
      obtain ⟨⟨t, nx⟩, hcho, hwk3⟩ := Option.bind_eq_some_iff.mp hwk2
      have hcc := Aside0.mk ((simulate_choose.calls k nm A1 c1 ps A2 c2 ts Aw cw ws Am cm m sd t nx wr (Kd.C_below hp hH.out.bel) hc1 (Kd.C_below hts hH.out.bel) hc2 (Kd.C_below hw hH.out.bel) hcw hCm.out hcm hcho))
      replace hwk3 := Aside0.mk hwk3
      clear hwk2 hcho hq hwk hlt
      go_wp2_with fail
      refine hcc.out.mono ?_
      rintro e W3 ⟨rfl, hb3⟩
      have H3 := hH.out.below hb3
      have x0 := H3.cell 0 0 rfl rfl
      have x1 := H3.cell 0 1 rfl rfl
      have x2 := H3.cell 0 2 rfl rfl
      have hC3 := Aside0.mk (Kd.C_below hCm.out hb3)
      have hch3 := Aside0.mk (hC.out.below_self hb3)
      have hb3' := Aside0.mk hb3
      clear hcc hb3 nd0 nd1 nd2
      by_cases hneg : t < 0
      · have d2 : decide (t < 0) = true := decide_eq_true hneg
        have hr := hwk3.out
        simp only [if_pos hneg] at hr
        injection hr with hr
        injection hr with hr1 hr
        injection hr with hr2 hr3
        subst hr2 hr3
        have hl2 : l0 = l := by rw [hl.out.1, ← hr1, List.append_nil]
        replace hl2 := Aside0.mk hl2
        replace H3 := Aside0.mk H3
        clear hwk3 hneg hr1 hq2 hj2
        go_wp2
        try rw [Exit.noGoto_ret]
        refine ⟨rfl, .tuple #[.int .u64 sd, .int .i64 0], by simp [results, Try.f24, go_sem], ?_⟩
        exact ⟨rfl, own, by rw [← hl2.out]; exact hs'.out.step _ _ _ _ hIo.out hb3'.out, hch3.out, fun k hk => (hk1.out k hk).imp id (fun h => by omega)⟩
      · have d2 : decide (t < 0) = false := decide_eq_false hneg
        have hr := hwk3.out
        simp only [if_neg hneg] at hr
        obtain ⟨⟨o2, e2⟩, hfire, hr2⟩ := Option.bind_eq_some_iff.mp hr
        have hfc := Aside0.mk ((firing_Fire.calls k nm A1 c1 ps A2 c2 ts Am cm m t o2 e2 W3 (Kd.C_below hp H3.bel) hc1 (Kd.C_below hts H3.bel) hc2 hC3.out hcm hfire))
        have hneg2 := Aside0.mk (show 0 ≤ t by omega)
        replace hr2 := Aside0.mk hr2
        replace H3 := Aside0.mk H3
        clear hr hfire hwk3 hneg
        go_wp2_with fail
        refine hfc.out.mono ?_
        rintro e W4 ⟨v4, rfl, hR4, hb4⟩
        have H4 := H3.out.below hb4
        have hch4 := Aside0.mk (hch3.out.below_self hb4)
        have hb5 := hb3'.out.trans (hb4.mono hb3'.out.size)
        by_cases hz : e2 = 0
        · have b1 : (e2 != (0 : Int)) = false := by simp [hz]
          have hr := hr2.out
          simp only [if_pos hz] at hr
          split at hr
          rotate_left
          · cases hr
          rename_i hgd
          obtain ⟨⟨l2, s2, e3⟩, hwk4, hr3⟩ := Option.bind_eq_some_iff.mp hr
          injection hr3 with hr3
          injection hr3 with hr3 hr4
          injection hr4 with hr4 hr5
          simp only at hr3 hr4 hr5
          subst hr4 hr5
          have hll := Aside0.mk (show l = (l0 ++ [(t, o2)]) ++ l2 ∧ (l0 ++ [(t, o2)]).length = j + 1 + 1 by rw [hl.out.1, ← hr3]; simp [hl.out.2])
          have hsee := Aside0.mk (hs'.out.call l0 own wr W4 v4 o2 t hIo.out hb5 (Kd.R_lower hR4 hb3'.out.size) hgd.2 (.inr ⟨hneg2.out, hgd.1⟩) (by have := hl.out.2; have := hj3.out; omega))
          have hltw := Aside0.mk (fun q (hk : own q) => hs'.out.lt _ _ _ q hIo.out hk)
          have hlow := Aside0.mk (fun q (hk : own q) => hs'.out.lo _ _ _ q hIo.out hk)
          have hR5 := Aside0.mk hR4
          have hb5' := Aside0.mk hb5
          replace hwk4 := Aside0.mk hwk4
          replace H4 := Aside0.mk H4
          clear hr hr3 hr2 hz hgd hfc hR4 hb4 hb5 x0 x1 x2 H3
          go_wp2_with fail
          refine hsee.out.mono ?_
          rintro e W5 ⟨rfl, own5, hI5, hc5, ho5⟩
          have hsz4 := hb5'.out.size
          obtain ⟨A5, c5, rfl, hc5', hC5⟩ := C_of_R_chg hR5.out hc5 (fun q hq => by have := hltw.out q hq; have := hb3'.out.size; omega)
          have H5 := H4.out.chg hc5 (fun q hq => hlow.out q hq) (fun p hp hq => by rcases List.mem_singleton.1 hp with rfl; rcases hk1.out _ hq with h | h; · exact hown0.out _ h rfl
                                                                                   · simp at h; omega)
          have hk5 : ∀ q, own5 q → own0 q ∨ w.heap.size + 1 ≤ q := fun q hq => (ho5 q hq).elim (hk1.out q) (fun h => .inr (by have := (H4.out.lt _ (Held.mem (i := 0) rfl)); simp at this; omega))
          have hch5 := hch4.out.join hc5 (fun q hq => (hk1.out q hq).imp id (fun h => by omega))
          replace hI5 := Aside0.mk hI5
          replace hC5 := Aside0.mk hC5
          replace H5 := Aside0.mk H5
          replace hk5 := Aside0.mk hk5
          replace hch5 := Aside0.mk hch5
          clear hsz4 hc5 ho5 hR5 H4
          go_wp2
          go_roundg (steps.toNat - (j + 1))
          case measure => have := hj2.out; omega
          case rel => exact ⟨j + 1, nx, o2, l0 ++ [(t, o2)], l2, own5, A5, c5, rfl, by go_num, rfl, hj2.out, Nat.le_refl _, hc5', by rw [hq2.out]; exact hwk4, hll, hI5, hk5, hch5, hC5, H5⟩
        · have b1 : (e2 != (0 : Int)) = true := by simp [hz]
          have hr := hr2.out
          simp only [if_neg hz] at hr
          injection hr with hr
          injection hr with hr1 hr
          injection hr with hr2' hr3
          subst hr2' hr3
          have hl2 : l0 = l := by rw [hl.out.1, ← hr1, List.append_nil]
          replace hl2 := Aside0.mk hl2
          replace hb5 := Aside0.mk hb5
          replace H4 := Aside0.mk H4
          clear hr2 hr1 hz hfc hR4 hb4 x0 x1 x2
          go_wp2
          try rw [Exit.noGoto_ret]
          refine ⟨rfl, .tuple #[.int .u64 0, .int .i64 e2], by simp [results, Try.f24, go_sem], ?_⟩
          exact ⟨rfl, own, by rw [← hl2.out]; exact hs'.out.step _ _ _ _ hIo.out hb5.out, hch4.out, fun k hk => (hk1.out k hk).imp id (fun h => by omega)⟩
    · have d1 : decide ((j : Int) < steps) = false := decide_eq_false hlt
      have hr := hwk.out
      rw [show steps.toNat - j = 0 by omega, walkL] at hr
      injection hr with hr
      injection hr with hr1 hr
      injection hr with hr2' hr3
      subst hr2' hr3
      have hl2 : l0 = l := by rw [hl.out.1, ← hr1, List.append_nil]
      replace hl2 := Aside0.mk hl2
      clear hr1 hwk
      go_wp2
      try rw [Exit.noGoto_ret]
      refine ⟨rfl, .tuple #[.int .u64 sd, .int .i64 0], by simp [results, Try.f24, go_sem], ?_⟩
      exact ⟨rfl, own, by rw [← hl2.out]; exact hIo.out, hC.out, fun k hk => (hk1.out k hk).imp id (fun h => by omega)⟩

end Go.Proofs.Yteaimaafahpamaa.Hy
/- By hand (sim_cls, sim_out, sim_trc): a part of this seat's proofs. -/
namespace Go.Proofs.Yteaimaafahpamaa.Hy
open Go.RowKit Go.Shelf Go.Proofs.YteaimaafahpamaaW.PrintWords Go.Proofs.YteaimaafahpamaaW.PrintLast Go.Proofs.YteaimaafahpamaaW.PrintMore
set_option linter.unusedVariables false
set_option linter.unusedSimpArgs false
attribute [local go_sem] Oper.semAt_some
/-! ### the closures that are handed to simulate.run -/
def firedL (l : List (Int × List Int)) : List Int := (l.filter fun p => decide (0 ≤ p.1)).map (·.1)
def lastL (l : List (Int × List Int)) : List Int := (l.getLast?.map (·.2)).getD []
theorem firedL_pos (l : List (Int × List Int)) (t : Int) (m : List Int) (h : 0 ≤ t) : firedL (l ++ [(t, m)]) = firedL l ++ [t] := by simp [firedL, List.filter_append, h]
theorem firedL_neg (l : List (Int × List Int)) (t : Int) (m : List Int) (h : ¬ 0 ≤ t) : firedL (l ++ [(t, m)]) = firedL l := by simp [firedL, List.filter_append, h]
theorem firedL_len (l : List (Int × List Int)) : (firedL l).length ≤ l.length := by unfold firedL; rw [List.length_map]; exact List.length_filter_le _ _
theorem lastL_snoc (l : List (Int × List Int)) (t : Int) (m : List Int) : lastL (l ++ [(t, m)]) = m := by simp [lastL]
def IRun (B bl ba : Nat) (l : List (Int × List Int)) (own : Nat → Prop) (W : World) : Prop :=
  ∃ vl vm, W.heap[bl]? = some (.cells #[vl] 26 (0, 0)) ∧ W.heap[ba]? = some (.cells #[vm] 26 (0, 0)) ∧ W.ownsRow B 3 1 vl (firedL l).length (nums .i64 (firedL l)) ∧ Kd.R (Kd.int .i64) 3 W B (fun _ => True) vm (lastL l) ∧ NeRow vm vl ∧ own = fun k => k = bl ∨ k = ba ∨ vl.ownBlock = some k
set_option maxRecDepth 100000 in
set_option maxHeartbeats 4000000 in
theorem run1_see (N T B bl ba : Nat) (hB : B ≤ bl) (hB2 : B ≤ ba) (hne : bl ≠ ba) : SeeOk 25 #[.pointer (some ⟨bl, 0, none⟩), .pointer (some ⟨ba, 0, none⟩)] N T B (IRun B bl ba) := by
  refine ⟨?_, ?_, ?_, ?_⟩
  · rintro l own W k ⟨vl, vm, c1, c2, ho, _, _, rfl⟩ hk
    rcases hk with rfl | rfl | hk
    · exact blk_lt c1
    · exact blk_lt c2
    · exact own_lt ho k hk
  · rintro l own W k ⟨vl, vm, c1, c2, ho, _, _, rfl⟩ hk
    rcases hk with rfl | rfl | hk
    · exact hB
    · exact hB2
    · exact own_base ho k hk
  · rintro l own W W' ⟨vl, vm, c1, c2, ho, hm, hn, rfl⟩ hb
    exact ⟨vl, vm, blk_below c1 hb, blk_below c2 hb, pw_own_below ho hb, Kd.R_below hm hb, hn, rfl⟩
  · rintro l own W1 W vm m t ⟨vl, vo, c1, c2, ho, hlast, hnr, rfl⟩ hb hR hN ht hl
    have c1' := blk_below c1 hb
    have c2' := blk_below c2 hb
    have ho' := Aside0.mk (pw_own_below ho hb)
    have hRb := Aside0.mk (Kd.R_bound hR)
    obtain ⟨Av, cv, rfl, hcv, hCv⟩ := Kd.R_reads hR
    have n1 := own_ne ho'.out c1' (by decide)
    have n2 := own_ne ho'.out c2' (by decide)
    have hm1 : ∀ k, (Value.slice Av m.length cv).ownBlock = some k → W1.heap.size ≤ k := fun k hk => (hRb.out.1 k hk).2.1
    have nm1 : ∀ k, (Value.slice Av m.length cv).ownBlock = some k → k ≠ bl ∧ k ≠ ba := fun k hk => by have := hm1 k hk; have := blk_lt c1; have := blk_lt c2; omega
    have nmv : NeRow (.slice Av m.length cv) vl := fun k hk hk2 => by have := hm1 k hk; have := own_lt ho k hk2; omega
    have hBW : B ≤ W.heap.size := by have := blk_lt c1'; omega
    have hBW1 : B ≤ W1.heap.size := by have := blk_lt c1; omega
    have g1 := cell_of_one c1'
    have g2 := cell_of_one c2'
    have z1 := blk_frozen c1' 0
    have z2 := blk_frozen c2' 0
    have hfl := firedL_len l
    have hbl1 := blk_lt c1
    have hba1 := blk_lt c2
    have ho1w := Aside0.mk (fun k (hk : vl.ownBlock = some k) => own_lt ho k hk)
    have hsz := hb.size
    replace hR := Aside0.mk hR
    replace hN := Aside0.mk hN
    replace nm1 := Aside0.mk nm1
    replace nmv := Aside0.mk nmv
    replace hm1 := Aside0.mk hm1
    replace c1' := Aside0.mk c1'
    replace c2' := Aside0.mk c2'
    replace n1 := Aside0.mk n1
    replace n2 := Aside0.mk n2
    clear hb c1 c2 ho hlast hnr hCv
    rw [show (#[.int .i64 t, .slice Av m.length cv] ++ #[.pointer (some ⟨bl, 0, none⟩), .pointer (some ⟨ba, 0, none⟩)] : Array Value) = #[.int .i64 t, .slice Av m.length cv, .pointer (some ⟨bl, 0, none⟩), .pointer (some ⟨ba, 0, none⟩)] from by simp]
    by_cases ht0 : 0 ≤ t
    · have d1 : decide (t ≥ 0) = true := decide_eq_true ht0
      have d2 : decide (0 ≤ t) = true := decide_eq_true ht0
      replace ht0 := Aside0.mk ht0
      go_enter Try.func25, Try.ntmps25
      go_wp2_with (at_builtin; refine print_append_num (w0 := W) B rfl (.tmp 8) (.tmp 10) 26 3 .i64 8 rfl Try.underlying26 infoInt (by decide) vl (firedL l) t rfl rfl ho'.out (Below.refl B W) hBW (by omega) ?_; intro v1 w1 ho1 hb1 hg1 hat1; obtain ⟨Av1, cv1, hv1⟩ := own_slice ho1; obtain ⟨len1, hl1⟩ : ∃ n, (firedL l ++ [t]).length = n := ⟨_, rfl⟩; rw [hl1] at ho1 hv1; replace hl1 := Aside0.mk hl1; subst hv1; have k1 := blk_grown c1'.out hg1 n1.out; have k2 := blk_grown c2'.out hg1 n2.out; have y1 := blk_frozen k1 0; have y2 := blk_frozen (blk_far k2 (p := ⟨bl, 0, none⟩) (Ne.symm hne) (.slice Av1 len1 cv1)) 0; have x1 := cell_of_one k1; have x2 := cell_of_one (blk_far k2 (p := ⟨bl, 0, none⟩) (Ne.symm hne) (.slice Av1 len1 cv1)); replace ho1 := Aside0.mk ho1; replace hg1 := Aside0.mk hg1; replace hat1 := Aside0.mk hat1; replace k1 := Aside0.mk k1; replace k2 := Aside0.mk k2; clear hb1 g1 g2 z1 z2)
      refine ⟨rfl, .tuple #[], by simp [results, Try.f25, go_sem], rfl, (fun k => k = bl ∨ k = ba ∨ (Value.slice Av1 len1 cv1).ownBlock = some k), ?_, ?_, ?_⟩
      · refine ⟨.slice Av1 len1 cv1, .slice Av m.length cv, ?_, ?_, ?_, ?_, ?_, rfl⟩
        · exact blk_far (blk_set k1.out 0 _) (p := ⟨ba, 0, none⟩) hne _
        · exact blk_set (blk_far k2.out (p := ⟨bl, 0, none⟩) (Ne.symm hne) _) 0 _
        · rw [firedL_pos l t m ht0.out, hl1.out]
          refine own_setCell (own_setCell ho1.out ?_ _) ?_ _
          · exact own_ne ho1.out k1.out (by decide)
          · exact own_ne ho1.out k2.out (by decide)
        · rw [lastL_snoc]
          have hr1 := Kd.R_grown (Kd.R_mono (Kd.R_bound hR.out) (ok' := fun k => W1.heap.size ≤ k) (fun k hk => hk.2.1)) hg1.out (fun k hk hk2 => by have := ho1w.out k hk2.symm; omega)
          have hr2 := Kd.R_lower (Kd.R_far (Kd.R_far hr1 (p := ⟨bl, 0, none⟩) (fun k hk => by simp; omega) (.slice Av1 len1 cv1)) (p := ⟨ba, 0, none⟩) (fun k hk => by simp; omega) (.slice Av m.length cv)) hBW1
          exact Kd.R_mono hr2 (fun _ _ => trivial)
        · intro k hk hk2
          rcases hat1.out with h | ⟨b, h, hb⟩
          · rw [h] at hk2; exact nmv.out k hk hk2
          · rw [h] at hk2; injection hk2 with hk2; have := (hRb.out.1 k hk).2.2.1; omega
      · exact ((Chg.of_grown hg1.out (fun k hk => .inr (.inr hk))).setCell (p := ⟨bl, 0, none⟩) (.inl rfl) _).setCell (p := ⟨ba, 0, none⟩) (.inr (.inl rfl)) _
      · intro k hk
        rcases hk with hk | hk | hk
        · exact .inl (.inl hk)
        · exact .inl (.inr (.inl hk))
        · rcases hat1.out with h | ⟨b, h, hb⟩
          · rw [h] at hk; exact .inl (.inr (.inr hk))
          · rw [h] at hk; injection hk with hk; exact .inr (by omega)
    · have d1 : decide (t ≥ 0) = false := decide_eq_false ht0
      have d2 : decide (0 ≤ t) = false := decide_eq_false ht0
      replace ht0 := Aside0.mk ht0
      go_enter Try.func25, Try.ntmps25
      go_wp2
      refine ⟨rfl, .tuple #[], by simp [results, Try.f25, go_sem], rfl, (fun k => k = bl ∨ k = ba ∨ vl.ownBlock = some k), ?_, ?_, fun k hk => .inl hk⟩
      · refine ⟨vl, .slice Av m.length cv, ?_, ?_, ?_, ?_, nmv.out, rfl⟩
        · exact blk_far c1'.out (p := ⟨ba, 0, none⟩) hne _
        · exact blk_set c2'.out 0 _
        · rw [firedL_neg l t m (by have := ht0.out; omega)]
          exact own_setCell ho'.out n2.out _
        · rw [lastL_snoc]
          have hr2 := Kd.R_lower (Kd.R_far (Kd.R_mono (Kd.R_bound hR.out) (ok' := fun k => W1.heap.size ≤ k) (fun k hk => hk.2.1)) (p := ⟨ba, 0, none⟩) (fun k hk => by simp; omega) (.slice Av m.length cv)) hBW1
          exact Kd.R_mono hr2 (fun _ _ => trivial)
      · exact (Chg.refl _ _).setCell (p := ⟨ba, 0, none⟩) (.inr (.inl rfl)) _

/-! ### a row of rows that the call makes -/
abbrev kM : Kd (List Int) := Kd.slice 3 (Kd.int .i64)
def nilV : Value := .slice none 0 0
theorem infoR : (Try.prog.info? 26).map (fun i => (i.zero, i.size, i.bytes)) = some (some (.slice none 0 0), 1, 24) := by kernel_rfl
structure OutT (W : World) (B : Nat) (v : Value) (ps : List (Value × List Int)) : Prop where
  own : W.ownsRow B 26 1 v ps.length (ps.map (·.1))
  el : ∀ p ∈ ps, (Kd.int .i64).R 3 W B (fun _ => True) p.1 p.2
  ap : ps.Pairwise fun p q => NeRow p.1 q.1
namespace OutT
variable {W W' : World} {B : Nat} {v v' : Value} {ps : List (Value × List Int)}
theorem nil (W : World) (B : Nat) : OutT W B (.slice none 0 0) [] := ⟨own_nil _ _ _ _, by simp, List.Pairwise.nil⟩
theorem below (h : OutT W B v ps) (hb : Below W.heap.size W W') : OutT W' B v ps :=
  ⟨own_move h.own (fun k hk => hb.block k (own_lt h.own k hk)), fun p hp => Kd.R_below (h.el p hp) hb, h.ap⟩
theorem lt (h : OutT W B v ps) {p : Value × List Int} (hp : p ∈ ps) {k : Nat} (hk : p.1.ownBlock = some k) : k < W.heap.size := ((Kd.R_bound (h.el p hp)).1 k hk).2.2.1
/-- a block of another type is written -/
theorem far (h : OutT W B v ps) {g t : Nat} {cs : Array Value} (hg : W.heap[g]? = some (.cells cs t (0, 0))) (h1 : t ≠ 3) (h2 : t ≠ 26) (j : Nat) (u : Value) : OutT (W.setCell ⟨g, j, none⟩ u) B v ps := by
  refine ⟨own_setCell h.own (own_ne h.own hg (Ne.symm h2)) u, fun p hp => ?_, h.ap⟩
  have hb := Kd.R_bound (h.el p hp)
  refine Kd.R_mono (Kd.R_far (Kd.R_mono hb (ok' := fun k => k ≠ g) (fun k hk e => ?_)) (p := ⟨g, j, none⟩) (fun k hk => hk) u) (fun _ _ => trivial)
  obtain ⟨_, _, _, q, hq, cells, hc⟩ := hk
  subst e
  rw [hg] at hc
  injection hc with hc
  injection hc with _ hc
  simp [Kd.int, Kd.scalar] at hq
  exact h1 (hc.trans hq)
/-- one is appended -/
theorem snoc (h : OutT W B v ps) {u : Value} {x : List Int} (hu : (Kd.int .i64).R 3 W B (fun _ => True) u x) (hap : ∀ p ∈ ps, NeRow p.1 u) (hg : W.grownBy W' v.ownBlock) (ho : W'.ownsRow B 26 1 v' (ps.length + 1) (ps.map (·.1) ++ [u])) : OutT W' B v' (ps ++ [(u, x)]) := by
  refine ⟨by simpa using ho, fun p hp => ?_, ?_⟩
  · rcases List.mem_append.1 hp with hp | hp
    · exact Kd.R_over' (v := v) (e' := 26) (h.el p hp) (fun k hk => own_typed h.own k hk) (by simp [Kd.int, Kd.scalar]) hg
    · rw [List.mem_singleton.1 hp]
      exact Kd.R_over' (v := v) (e' := 26) hu (fun k hk => own_typed h.own k hk) (by simp [Kd.int, Kd.scalar]) hg
  · refine List.pairwise_append.2 ⟨h.ap, List.pairwise_singleton _ _, fun p hp q hq => ?_⟩
    rw [List.mem_singleton.1 hq]
    exact hap p hp
theorem slice (h : OutT W B v ps) : ∃ A c, v = .slice A ps.length c := own_slice h.own
end OutT
/-- as the printed texts ask for it -/
theorem OutT.shareOk {W : World} {B : Nat} {v : Value} {ps : List (Value × List Int)} (h : OutT W B v ps) (ok : Nat → Prop) (hok : ∀ k, v.ownBlock = some k → ok k) (hel0 : ∀ p ∈ ps, ∀ k, p.1.ownBlock = some k → ok k) : Kd.S kM 26 W B ok v (ps.map (·.2)) := by
  refine ⟨fun k => ((List.range ps.length).find? fun i => decide ((ps.getD i (nilV, [])).1.ownBlock = some k)).getD 0, hok, ps.map (·.1), ?_, ?_, ?_⟩
  · rw [List.length_zipIdx, List.length_map]; exact h.own
  · simp [Kd.tag, Kd.slice]
  · intro j p hp
    have hj : j < ps.length := by
      have := (List.getElem?_eq_some_iff.1 hp).1
      simpa using this
    have hpe : p = (ps[j].2, j) := by
      rw [List.getElem?_zipIdx, List.getElem?_map, List.getElem?_eq_getElem hj] at hp
      simpa using hp.symm
    subst hpe
    have hd : ((ps.map (·.1)).drop (j * (Kd.tag (fun k => ((List.range ps.length).find? fun i => decide ((ps.getD i (nilV, [])).1.ownBlock = some k)).getD 0) kM).sz)).take (Kd.tag (fun k => ((List.range ps.length).find? fun i => decide ((ps.getD i (nilV, [])).1.ownBlock = some k)).getD 0) kM).sz = [ps[j].1] := by
      have hs : (Kd.tag (fun k => ((List.range ps.length).find? fun i => decide ((ps.getD i (nilV, [])).1.ownBlock = some k)).getD 0) kM).sz = 1 := rfl
      rw [hs, Nat.mul_one, List.drop_eq_getElem_cons (by simpa using hj)]
      simp
    rw [hd]
    have hel := h.el _ (List.getElem_mem hj)
    refine ⟨ps[j].1, rfl, fun k hk => ⟨⟨hel0 _ (List.getElem_mem hj) k hk, fun e => ?_⟩, ?_⟩, hel.2⟩
    · obtain ⟨c1, h1⟩ := own_typed h.own k e.symm
      obtain ⟨inner, ho⟩ := Kd.R_own hel
      obtain ⟨c2, h2⟩ := own_typed ho k hk
      rw [h1] at h2
      injection h2 with h2
      injection h2 with _ h2
      exact absurd h2 (by decide)
    · have hf : (List.range ps.length).find? (fun i => decide ((ps.getD i (nilV, [])).1.ownBlock = some k)) = some j := by
        rw [List.find?_range_eq_some]
        refine ⟨by simp [List.getD_eq_getElem?_getD, List.getElem?_eq_getElem hj, hk], List.mem_range.2 hj, fun i hi => ?_⟩
        have := (List.pairwise_iff_getElem.1 h.ap) i j (by omega) hj hi
        have h2 : ¬ (ps[i].1.ownBlock = some k) := fun e => this k e hk
        simpa [List.getD_eq_getElem?_getD, List.getElem?_eq_getElem (show i < ps.length by omega)] using h2
      show ((List.range ps.length).find? _).getD 0 = j
      rw [hf]; rfl
theorem OutT.share {W : World} {B : Nat} {v : Value} {ps : List (Value × List Int)} (h : OutT W B v ps) : Kd.S kM 26 W B (fun _ => True) v (ps.map (·.2)) := h.shareOk _ (fun _ _ => trivial) (fun _ _ _ _ => trivial)

/-! ### simulate.Trace's closure -/
def ITr (B bo : Nat) (l : List (Int × List Int)) (own : Nat → Prop) (W : World) : Prop :=
  ∃ vo ps, W.heap[bo]? = some (.cells #[vo] 45 (0, 0)) ∧ OutT W B vo ps ∧ ps.map (·.2) = l.map (·.2) ∧ own = fun k => k = bo ∨ vo.ownBlock = some k
set_option maxRecDepth 100000 in
set_option maxHeartbeats 4000000 in
theorem trace1_see (N T B bo : Nat) (hB : B ≤ bo) : SeeOk 33 #[.pointer (some ⟨bo, 0, none⟩)] N T B (ITr B bo) := by
  refine ⟨?_, ?_, ?_, ?_⟩
  · rintro l own W k ⟨vo, ps, c1, hO, _, rfl⟩ hk
    rcases hk with rfl | hk
    · exact blk_lt c1
    · exact own_lt hO.own k hk
  · rintro l own W k ⟨vo, ps, c1, hO, _, rfl⟩ hk
    rcases hk with rfl | hk
    · exact hB
    · exact own_base hO.own k hk
  · rintro l own W W' ⟨vo, ps, c1, hO, hp, rfl⟩ hb
    exact ⟨vo, ps, blk_below c1 hb, hO.below hb, hp, rfl⟩
  · rintro l own W1 W vm m t ⟨vo, ps, c1, hO, hp, rfl⟩ hb hR hN ht hl
    have c1' := blk_below c1 hb
    have hO' := hO.below hb
    have hRb := Aside0.mk (Kd.R_bound hR)
    obtain ⟨Av, cv, rfl, hcv, hCv⟩ := Kd.R_reads hR
    obtain ⟨Ao, co, rfl⟩ := hO'.slice
    have n1 := own_ne hO'.own c1' (by decide)
    have hm1 : ∀ k, (Value.slice Av m.length cv).ownBlock = some k → W1.heap.size ≤ k := fun k hk => (hRb.out.1 k hk).2.1
    have hap : ∀ p ∈ ps, NeRow p.1 (.slice Av m.length cv) := fun p hp k hk hk2 => by have := hm1 k hk2; have := hO.lt hp hk; omega
    have hBW1 : B ≤ W1.heap.size := by have := blk_lt c1; omega
    have hBW : B ≤ W.heap.size := by have := hb.size; omega
    have g1 := cell_of_one c1'
    have z1 := blk_frozen c1' 0
    have hpl : ps.length = l.length := by have := congrArg List.length hp; simpa using this
    have hRB := Aside0.mk (Kd.R_lower hR hBW1)
    have hpl2 := Aside0.mk (show (ps.map (·.1)).length ≤ 1000001 by rw [List.length_map, hpl]; exact hl)
    have hown : W.ownsRow B 26 1 (.slice Ao ps.length co) (ps.map (·.1)).length (ps.map (·.1)) := by rw [List.length_map]; exact hO'.own
    replace hown := Aside0.mk hown
    replace hap := Aside0.mk hap
    replace hm1 := Aside0.mk hm1
    replace c1' := Aside0.mk c1'
    replace n1 := Aside0.mk n1
    replace hO' := Aside0.mk hO'
    replace hp := Aside0.mk hp
    replace hN := Aside0.mk hN
    clear hb c1 hO hCv hR hpl
    rw [show (#[.int .i64 t, .slice Av m.length cv] ++ #[.pointer (some ⟨bo, 0, none⟩)] : Array Value) = #[.int .i64 t, .slice Av m.length cv, .pointer (some ⟨bo, 0, none⟩)] from by simp]
    go_enter Try.func33, Try.ntmps33
    go_wp2_with (at_builtin; refine print_append (w0 := W) B rfl (.tmp 5) (.tmp 7) 45 26 (.slice none 0 0) 24 rfl Try.underlying45 infoR rfl (by decide) (.slice Ao ps.length co) (ps.map (·.1)) (.slice Av m.length cv) rfl rfl rfl hown.out (Below.refl B W) hBW (by have := hpl2.out; omega) ?_; intro v1 w1 ho1 hb1 hg1 hat1; obtain ⟨Av1, cv1, hv1⟩ := own_slice ho1; obtain ⟨len1, hl1⟩ : ∃ n, (ps.map (·.1) ++ [Value.slice Av m.length cv]).length = n := ⟨_, rfl⟩; rw [hl1] at ho1 hv1; replace hl1 := Aside0.mk hl1; subst hv1; have k1 := blk_grown c1'.out hg1 n1.out; have y1 := blk_frozen k1 0; have x1 := cell_of_one k1; replace ho1 := Aside0.mk ho1; replace hg1 := Aside0.mk hg1; replace hat1 := Aside0.mk hat1; replace k1 := Aside0.mk k1; clear hb1 g1 z1)
    have hO1 : OutT w1 B (.slice Av1 len1 cv1) (ps ++ [(.slice Av m.length cv, m)]) := hO'.out.snoc hRB.out hap.out hg1.out (by have := ho1.out; rw [← hl1.out, List.length_append, List.length_map] at this; rw [← hl1.out, List.length_append, List.length_map]; exact this)
    refine ⟨rfl, .tuple #[], by simp [results, Try.f33, go_sem], rfl, (fun k => k = bo ∨ (Value.slice Av1 len1 cv1).ownBlock = some k), ?_, ?_, ?_⟩
    · exact ⟨_, _, blk_set k1.out 0 _, hO1.far k1.out (by decide) (by decide) 0 _, by rw [List.map_append, List.map_append, hp.out]; rfl, rfl⟩
    · exact (Chg.of_grown hg1.out (fun k hk => .inr hk)).setCell (p := ⟨bo, 0, none⟩) (.inl rfl) _
    · intro k hk
      rcases hk with hk | hk
      · exact .inl (.inl hk)
      · rcases hat1.out with h | ⟨b, h, hb⟩
        · rw [h] at hk; exact .inl (.inr hk)
        · rw [h] at hk; injection hk with hk; exact .inr (by omega)

end Go.Proofs.Yteaimaafahpamaa.Hy
/- By hand (sim_man): a part of this seat's proofs. -/
namespace Go.Proofs.Yteaimaafahpamaa.Hy
open Go.RowKit Go.Shelf Go.Proofs.YteaimaafahpamaaW.PrintWords Go.Proofs.YteaimaafahpamaaW.PrintLast Go.Proofs.YteaimaafahpamaaW.PrintMore
set_option linter.unusedVariables false
set_option linter.unusedSimpArgs false
attribute [local go_sem] Oper.semAt_some
/-! ### simulate.Many's closure -/
structure Cel (L : List (Nat × Obj)) (W : World) : Prop where
  at_ : ∀ p ∈ L, W.heap[p.1]? = some p.2
  nd : (L.map (·.1)).Nodup
namespace Cel
variable {W W' : World} {L : List (Nat × Obj)} {g t : Nat} {cs : Array Value} {xs : List Int}
theorem mem {p : Nat × Obj} {i : Nat} (hi : L[i]? = some p) : p ∈ L := List.mem_of_getElem? hi
theorem lt (h : Cel L W) : ∀ p ∈ L, p.1 < W.heap.size := fun p hp => (Array.getElem?_eq_some_iff.1 (h.at_ p hp)).1
theorem below (h : Cel L W) (hb : Below W.heap.size W W') : Cel L W' := ⟨fun p hp => (hb.block p.1 (h.lt p hp)).trans (h.at_ p hp), h.nd⟩
theorem upd (h : Cel L W) (i : Nat) {o o' : Obj} (hi : L[i]? = some (g, o)) (hg : W'.heap[g]? = some o') (hb : Chg (fun k => k = g) W W') : Cel (L.set i (g, o')) W' := by
  have hlt : i < L.length := (List.getElem?_eq_some_iff.1 hi).1
  have hgi : L[i] = (g, o) := (List.getElem?_eq_some_iff.1 hi).2
  have hother : ∀ j (hj : j < L.length), j ≠ i → L[j].1 ≠ g := fun j hj hne he => by
    have h1 : (L.map (·.1))[j]'(by simpa using hj) = (L.map (·.1))[i]'(by simpa using hlt) := by simp [he, hgi]
    have hp := List.pairwise_iff_getElem.1 h.nd
    rcases Nat.lt_or_gt_of_ne hne with hlt2 | hlt2
    · exact hp j i (by simpa using hj) (by simpa using hlt) hlt2 h1
    · exact hp i j (by simpa using hlt) (by simpa using hj) hlt2 h1.symm
  have hmap : (L.set i (g, o')).map (·.1) = L.map (·.1) := by
    rw [List.map_set]
    apply List.ext_getElem (by simp)
    intro j h1 h2
    rw [List.getElem_set]
    split
    · subst_vars; simp [hgi]
    · rfl
  refine ⟨?_, by rw [hmap]; exact h.nd⟩
  intro p hp
  obtain ⟨j, hj, rfl⟩ := List.getElem_of_mem hp
  rw [List.length_set] at hj
  rw [List.getElem_set]
  split
  · exact hg
  · rename_i hne
    have hp2 : L[j] ∈ L := List.getElem_mem hj
    exact (hb.block _ (h.lt _ hp2) (hother j hj (fun e => hne e.symm))).trans (h.at_ _ hp2)
theorem set (h : Cel L W) (i j : Nat) (hi : L[i]? = some (g, .cells cs t (0, 0))) (u : Value) : Cel (L.set i (g, .cells (cs.setIfInBounds j u) t (0, 0))) (W.setCell ⟨g, j, none⟩ u) :=
  h.upd i hi (blk_set (h.at_ _ (mem hi)) j u) ((Chg.refl (fun k => k = g) W).setCell (p := ⟨g, j, none⟩) rfl u)
theorem setN (h : Cel L W) (i j : Nat) (hi : L[i]? = some (g, .cells (nums .i64 xs).toArray t (0, 0))) (v : Int) : Cel (L.set i (g, .cells (nums .i64 (xs.set j v)).toArray t (0, 0))) (W.setCell ⟨g, j, none⟩ (.int .i64 v)) :=
  h.upd i hi (nums_set (h.at_ _ (mem hi)) j v) ((Chg.refl (fun k => k = g) W).setCell (p := ⟨g, j, none⟩) rfl _)
theorem cell (h : Cel L W) (i j : Nat) (hi : L[i]? = some (g, .cells cs t (0, 0))) {v : Value} (hj : cs[j]? = some v) : W.cell? ⟨g, j, none⟩ = some v := (blk_cell (h.at_ _ (mem hi)) j).trans hj
theorem free (h : Cel L W) (i j : Nat) (hi : L[i]? = some (g, .cells cs t (0, 0))) : W.frozen? ⟨g, j, none⟩ = false := blk_frozen (h.at_ _ (mem hi)) j
theorem num (h : Cel L W) (i j : Nat) (hi : L[i]? = some (g, .cells (nums .i64 xs).toArray t (0, 0))) (hj : j < xs.length) : W.cell? ⟨g, j, none⟩ = some (.int .i64 (xs.getD j 0)) := nums_cell (h.at_ _ (mem hi)) j hj
theorem blk (h : Cel L W) (i : Nat) {o : Obj} (hi : L[i]? = some (g, o)) : W.heap[g]? = some o := h.at_ _ (mem hi)
end Cel
def firS (F : List Int) (p : Int × List Int) : List Int := if 0 ≤ p.1 then F.set p.1.toNat (wrap64 (F.getD p.1.toNat 0 + 1)) else F
def cntS (c : Int) (p : Int × List Int) : Int := if 0 ≤ p.1 then wrap64 (c + 1) else c
def maxS (M : List Int) (p : Int × List Int) : List Int := List.zipWith mx M p.2
theorem firS_len (F : List Int) (p) : (firS F p).length = F.length := by unfold firS; split <;> simp
def mixL (M m : List Int) (j : Nat) : List Int := (List.zipWith mx M m).take j ++ M.drop j
theorem mixL_zero (M m : List Int) : mixL M m 0 = M := by simp [mixL]
theorem mixL_full (M m : List Int) (h : M.length = m.length) : mixL M m m.length = List.zipWith mx M m := by
  unfold mixL
  rw [List.take_of_length_le (by simp; omega), List.drop_of_length_le (by omega), List.append_nil]
theorem mixL_len (M m : List Int) (h : M.length = m.length) (j : Nat) (hj : j ≤ m.length) : (mixL M m j).length = m.length := by
  unfold mixL; simp; omega
theorem mixL_at (M m : List Int) (h : M.length = m.length) (j : Nat) (hj : j < m.length) : (mixL M m j).getD j 0 = M.getD j 0 := by
  unfold mixL
  have hl : ((List.zipWith mx M m).take j).length = j := by simp; omega
  rw [List.getD_eq_getElem?_getD, List.getD_eq_getElem?_getD, List.getElem?_append_right (by omega), hl, Nat.sub_self, List.getElem?_drop, Nat.add_zero]
theorem mixL_succ (M m : List Int) (h : M.length = m.length) (j : Nat) (hj : j < m.length) : (mixL M m j).set j (mx (M.getD j 0) (m.getD j 0)) = mixL M m (j + 1) := by
  unfold mixL
  have hz : j < (List.zipWith mx M m).length := by simp; omega
  have hl : ((List.zipWith mx M m).take j).length = j := by rw [List.length_take]; omega
  rw [List.set_append_right _ _ (by omega), hl, Nat.sub_self, List.drop_eq_getElem_cons (show j < M.length by omega), List.set_cons_zero, List.take_succ_eq_append_getElem hz, List.append_assoc, List.getElem_zipWith]
  simp [List.getD_eq_getElem?_getD, List.getElem?_eq_getElem hj, List.getElem?_eq_getElem (show j < M.length by omega)]
def manL (bo bf gF gM N T : Nat) (dead c : Int) (F M : List Int) : List (Nat × Obj) :=
  [(bo, .cells #[.slice (some ⟨gF, 0, none⟩) T T, .int .i64 dead, .slice (some ⟨gM, 0, none⟩) N N] 55 (0, 0)), (bf, .cells #[.int .i64 c] 3 (0, 0)), (gF, .cells (nums .i64 F).toArray 3 (0, 0)), (gM, .cells (nums .i64 M).toArray 3 (0, 0))]
def IMan (bo bf gF gM N T : Nat) (dead : Int) (F0 M0 : List Int) (l : List (Int × List Int)) (own : Nat → Prop) (W : World) : Prop :=
  Cel (manL bo bf gF gM N T dead (l.foldl cntS 0) (l.foldl firS F0) (l.foldl maxS M0)) W ∧ (l.foldl firS F0).length = T ∧ (l.foldl maxS M0).length = N ∧ own = fun k => k = bf ∨ k = gF ∨ k = gM
set_option maxRecDepth 100000 in
set_option maxHeartbeats 4000000 in
theorem many1_see (N T B bo bf gF gM : Nat) (dead : Int) (F0 M0 : List Int) (h1 : B ≤ bf) (h2 : B ≤ gF) (h3 : B ≤ gM) (hT : T ≤ 1000000) (hN0 : N ≤ 1000000) : SeeOk 36 #[.pointer (some ⟨bo, 0, none⟩), .pointer (some ⟨bf, 0, none⟩)] N T B (IMan bo bf gF gM N T dead F0 M0) := by
  refine ⟨?_, ?_, ?_, ?_⟩
  · rintro l own W k ⟨hC, _, _, rfl⟩ hk
    rcases hk with rfl | rfl | rfl
    · exact hC.lt _ (Cel.mem (i := 1) rfl)
    · exact hC.lt _ (Cel.mem (i := 2) rfl)
    · exact hC.lt _ (Cel.mem (i := 3) rfl)
  · rintro l own W k ⟨hC, _, _, rfl⟩ hk
    rcases hk with rfl | rfl | rfl <;> assumption
  · rintro l own W W' ⟨hC, hf, hm, rfl⟩ hb
    exact ⟨hC.below hb, hf, hm, rfl⟩
  · rintro l own W1 W vm m t ⟨hC, hf, hm, rfl⟩ hb hR hN ht hl
    have hlow : ∀ k, (k = bf ∨ k = gF ∨ k = gM) → k < W1.heap.size := by
      intro k hk
      rcases hk with rfl | rfl | rfl
      · exact hC.lt _ (Cel.mem (i := 1) rfl)
      · exact hC.lt _ (Cel.mem (i := 2) rfl)
      · exact hC.lt _ (Cel.mem (i := 3) rfl)
    have hC := hC.below hb
    obtain ⟨c0, hc0⟩ : ∃ c, l.foldl cntS 0 = c := ⟨_, rfl⟩
    obtain ⟨F, hF⟩ : ∃ F, l.foldl firS F0 = F := ⟨_, rfl⟩
    obtain ⟨M, hM⟩ : ∃ M, l.foldl maxS M0 = M := ⟨_, rfl⟩
    rw [hc0, hF, hM] at hC
    rw [hF] at hf
    rw [hM] at hm
    obtain ⟨Av, cv, rfl, hcv, _⟩ := Kd.R_reads hR
    have hRk : ∀ W', Chg (fun k => k = bf ∨ k = gF ∨ k = gM) W W' → Kd.C (Kd.int .i64) W' Av m.length m := fun W' hc =>
      Kd.C_kept_own (Kd.R_mono (Kd.R_bound hR) (ok' := fun q => W1.heap.size ≤ q) (fun q hq => hq.2.1)) (fun k hk hk2 => by have := hlow k hk2; omega) W' ⟨hc.size, hc.block⟩
    replace hRk := Aside0.mk hRk
    replace hc0 := Aside0.mk hc0
    replace hF := Aside0.mk hF
    replace hM := Aside0.mk hM
    replace hlow := Aside0.mk hlow
    clear hR hb
    rw [show (#[.int .i64 t, .slice Av m.length cv] ++ #[.pointer (some ⟨bo, 0, none⟩), .pointer (some ⟨bf, 0, none⟩)] : Array Value) = #[.int .i64 t, .slice Av m.length cv, .pointer (some ⟨bo, 0, none⟩), .pointer (some ⟨bf, 0, none⟩)] from by simp]
    by_cases ht0 : 0 ≤ t
    · have d1 : decide (t ≥ 0) = true := decide_eq_true ht0
      have d2 : decide (0 ≤ t) = true := decide_eq_true ht0
      have htT : t < (T : Int) := by omega
      obtain ⟨q, rfl⟩ := Int.eq_ofNat_of_zero_le ht0
      have hqT : q < T := by omega
      subst hN
      have y0 := hC.num 2 q rfl (by omega)
      have z0 := hC.free 2 q rfl
      have x0 := hC.cell 0 0 rfl rfl
      obtain ⟨fq, hfq⟩ : ∃ x, F.getD q 0 = x := ⟨_, rfl⟩
      rw [hfq] at y0
      replace hfq := Aside0.mk hfq
      have hs1 := hC.setN 2 q rfl (wrap64 (fq + 1))
      have b0 := hs1.cell 1 0 rfl rfl
      have e0 := hs1.free 1 0 rfl
      have hs2 := hs1.set 1 0 rfl (.int .i64 (wrap64 (c0 + 1)))
      have hC2 : Aside0 (Cel (manL bo bf gF gM m.length T dead (wrap64 (c0 + 1)) (F.set q (wrap64 (fq + 1))) M) _) := ⟨hs2⟩
      have hg2 : Aside0 (Chg (fun k => k = bf ∨ k = gF ∨ k = gM) W ((W.setCell ⟨gF, q, none⟩ (.int .i64 (wrap64 (fq + 1)))).setCell ⟨bf, 0, none⟩ (.int .i64 (wrap64 (c0 + 1))))) := ⟨((Chg.refl _ _).setCell (p := ⟨gF, q, none⟩) (.inr (.inl rfl)) _).setCell (p := ⟨bf, 0, none⟩) (.inl rfl) _⟩
      clear hs1 hs2 hC ht ht0
      go_enter Try.func36, Try.ntmps36
      go_wp2
      go_loopg [21] m.length (fun kx i wr => ∃ j : Nat, i = .int .i64 j ∧ j ≤ m.length ∧ m.length - j ≤ kx ∧ Aside0 (Cel (manL bo bf gF gM m.length T dead (wrap64 (c0 + 1)) (F.set q (wrap64 (fq + 1))) (mixL M m j)) wr) ∧ Aside0 (Chg (fun k => k = bf ∨ k = gF ∨ k = gM) W wr))
      case atStart => exact ⟨0, rfl, Nat.zero_le _, by omega, ⟨by rw [mixL_zero]; exact hC2.out⟩, hg2⟩
      case round =>
        clear hC2 hg2
        obtain ⟨j, rfl, hj, hkx, hCj, hgj⟩ := hrel
        have x0 := hCj.out.cell 0 0 rfl rfl
        have x2 := hCj.out.cell 0 2 rfl rfl
        by_cases hlt : j < m.length
        · obtain ⟨ad, hAd, hc⟩ := int_at (hRk.out wr hgj.out) j hlt
          subst hAd
          have y0 := hCj.out.num 3 j rfl (by rw [mixL_len M m hm j hj]; exact hlt)
          have z0 := hCj.out.free 3 j rfl
          rw [mixL_at M m hm j hlt] at y0
          have hset := hCj.out.setN 3 j rfl (mx (M.getD j 0) (m.getD j 0))
          rw [mixL_succ M m hm j hlt] at hset
          have hset' := Aside0.mk hset
          have hgj' := Aside0.mk (hgj.out.setCell (p := ⟨gM, j, none⟩) (.inr (.inr rfl)) (.int .i64 (mx (M.getD j 0) (m.getD j 0))))
          obtain ⟨u, hu⟩ : ∃ u, M.getD j 0 = u := ⟨_, rfl⟩
          obtain ⟨v, hv⟩ : ∃ v, m.getD j 0 = v := ⟨_, rfl⟩
          rw [hu, hv] at hset' hgj'
          rw [hu] at y0
          rw [hv] at hc
          unfold mx at hset' hgj'
          have hlt2 := Aside0.mk (show j + 1 ≤ m.length from hlt)
          clear hset hu hv hCj hgj
          by_cases huv : u < v
          · rw [if_pos huv] at hset' hgj'
            have huv2 : v > u := huv
            go_wp2
            go_region
            all_goals go_wp2
            go_roundg (m.length - (j + 1))
            case measure => have := hlt2.out; omega
            case rel => exact ⟨j + 1, by go_num, hlt2.out, Nat.le_refl _, ⟨⟨hset'.out.at_, hset'.out.nd⟩⟩, ⟨hgj'.out.drew⟩⟩
          · rw [if_neg huv] at hset' hgj'
            have huv2 : ¬ v > u := huv
            go_wp2
            go_region
            all_goals go_wp2
            go_roundg (m.length - (j + 1))
            case measure => have := hlt2.out; omega
            case rel => exact ⟨j + 1, by go_num, hlt2.out, Nat.le_refl _, ⟨⟨hset'.out.at_, hset'.out.nd⟩⟩, ⟨hgj'.out.drew⟩⟩
        · obtain rfl : j = m.length := by omega
          go_wp2
          refine ⟨rfl, .tuple #[], by simp [results, Try.f36, go_sem], rfl, (fun k => k = bf ∨ k = gF ∨ k = gM), ⟨?_, ?_, ?_, rfl⟩, hgj.out, fun k hk => .inl hk⟩
          · have := hCj.out
            rw [mixL_full M m hm] at this
            rw [List.foldl_append, List.foldl_append, List.foldl_append, hc0.out, hF.out, hM.out]
            simp only [List.foldl_cons, List.foldl_nil, cntS, firS, maxS, if_pos (Int.natCast_nonneg q), Int.toNat_natCast, hfq.out]
            exact this
          · rw [List.foldl_append, hF.out]; simp only [List.foldl_cons, List.foldl_nil, firS_len]; exact hf
          · rw [List.foldl_append, hM.out]; simp only [List.foldl_cons, List.foldl_nil, maxS]; rw [List.length_zipWith, hm, Nat.min_self]
    · have d1 : decide (t ≥ 0) = false := decide_eq_false ht0
      have d2 : decide (0 ≤ t) = false := decide_eq_false ht0
      subst hN
      have hC2 : Aside0 (Cel (manL bo bf gF gM m.length T dead c0 F M) W) := ⟨hC⟩
      have hg2 : Aside0 (Chg (fun k => k = bf ∨ k = gF ∨ k = gM) W W) := ⟨Chg.refl _ _⟩
      replace ht0 := Aside0.mk ht0
      clear hC ht
      go_enter Try.func36, Try.ntmps36
      go_wp2
      go_loopg [21] m.length (fun kx i wr => ∃ j : Nat, i = .int .i64 j ∧ j ≤ m.length ∧ m.length - j ≤ kx ∧ Aside0 (Cel (manL bo bf gF gM m.length T dead c0 F (mixL M m j)) wr) ∧ Aside0 (Chg (fun k => k = bf ∨ k = gF ∨ k = gM) W wr))
      case atStart => exact ⟨0, rfl, Nat.zero_le _, by omega, ⟨by rw [mixL_zero]; exact hC2.out⟩, hg2⟩
      case round =>
        clear hC2 hg2
        obtain ⟨j, rfl, hj, hkx, hCj, hgj⟩ := hrel
        have x0 := hCj.out.cell 0 0 rfl rfl
        have x2 := hCj.out.cell 0 2 rfl rfl
        by_cases hlt : j < m.length
        · obtain ⟨ad, hAd, hc⟩ := int_at (hRk.out wr hgj.out) j hlt
          subst hAd
          have y0 := hCj.out.num 3 j rfl (by rw [mixL_len M m hm j hj]; exact hlt)
          have z0 := hCj.out.free 3 j rfl
          rw [mixL_at M m hm j hlt] at y0
          have hset := hCj.out.setN 3 j rfl (mx (M.getD j 0) (m.getD j 0))
          rw [mixL_succ M m hm j hlt] at hset
          have hset' := Aside0.mk hset
          have hgj' := Aside0.mk (hgj.out.setCell (p := ⟨gM, j, none⟩) (.inr (.inr rfl)) (.int .i64 (mx (M.getD j 0) (m.getD j 0))))
          obtain ⟨u, hu⟩ : ∃ u, M.getD j 0 = u := ⟨_, rfl⟩
          obtain ⟨v, hv⟩ : ∃ v, m.getD j 0 = v := ⟨_, rfl⟩
          rw [hu, hv] at hset' hgj'
          rw [hu] at y0
          rw [hv] at hc
          unfold mx at hset' hgj'
          have hlt2 := Aside0.mk (show j + 1 ≤ m.length from hlt)
          clear hset hu hv hCj hgj
          by_cases huv : u < v
          · rw [if_pos huv] at hset' hgj'
            have huv2 : v > u := huv
            go_wp2
            go_region
            all_goals go_wp2
            go_roundg (m.length - (j + 1))
            case measure => have := hlt2.out; omega
            case rel => exact ⟨j + 1, by go_num, hlt2.out, Nat.le_refl _, ⟨⟨hset'.out.at_, hset'.out.nd⟩⟩, ⟨hgj'.out.drew⟩⟩
          · rw [if_neg huv] at hset' hgj'
            have huv2 : ¬ v > u := huv
            go_wp2
            go_region
            all_goals go_wp2
            go_roundg (m.length - (j + 1))
            case measure => have := hlt2.out; omega
            case rel => exact ⟨j + 1, by go_num, hlt2.out, Nat.le_refl _, ⟨⟨hset'.out.at_, hset'.out.nd⟩⟩, ⟨hgj'.out.drew⟩⟩
        · obtain rfl : j = m.length := by omega
          go_wp2
          refine ⟨rfl, .tuple #[], by simp [results, Try.f36, go_sem], rfl, (fun k => k = bf ∨ k = gF ∨ k = gM), ⟨?_, ?_, ?_, rfl⟩, hgj.out, fun k hk => .inl hk⟩
          · have := hCj.out
            rw [mixL_full M m hm] at this
            rw [List.foldl_append, List.foldl_append, List.foldl_append, hc0.out, hF.out, hM.out]
            simp only [List.foldl_cons, List.foldl_nil, cntS, firS, maxS, if_neg (show ¬ 0 ≤ t by have := ht0.out; omega)]
            exact this
          · rw [List.foldl_append, hF.out]; simp only [List.foldl_cons, List.foldl_nil, firS_len]; exact hf
          · rw [List.foldl_append, hM.out]; simp only [List.foldl_cons, List.foldl_nil, maxS]; rw [List.length_zipWith, hm, Nat.min_self]

end Go.Proofs.Yteaimaafahpamaa.Hy
/- By hand (sim_fns): a part of this seat's proofs. -/
namespace Go.Proofs.Yteaimaafahpamaa.Hy
open Go.RowKit Go.Shelf Go.Proofs.YteaimaafahpamaaW.PrintWords Go.Proofs.YteaimaafahpamaaW.PrintLast Go.Proofs.YteaimaafahpamaaW.PrintMore
set_option linter.unusedVariables false
set_option linter.unusedSimpArgs false
attribute [local go_sem] Oper.semAt_some
/-! ### simulate.Run, simulate.Trace -/
def simulate_Run.f (k : Nat) (a0_0 : ByteArray) (l0_1 : List (S65)) (l0_2 : List (S68)) (l1 : List Int) (a2 : Int) (a3 : Int) : Option (List Int × List Int × Int) :=
  (simulate_check.f k a0_0 l0_1 l0_2 l1 a3).bind fun c => if c = 0 then (runF k a0_0 l0_1 l0_2 l1 a2 a3).bind fun r => if r.2.2 = 0 then some (firedL r.1, lastL r.1, 0) else some ([], [], r.2.2) else some ([], [], c)
theorem simulate_Run.mono : ∀ a0 a1 a2 a3 a4 a5 k, LeO (simulate_Run.f k a0 a1 a2 a3 a4 a5) (simulate_Run.f (k + 1) a0 a1 a2 a3 a4 a5) := by
  intro a0 a1 a2 a3 a4 a5 k
  exact LeO.bind (simulate_check.mono _ _ _ _ _ _) (fun c => LeO.ite (LeO.bind (runF_mono _ _ _ _ _ _ _) (fun _ => LeO.refl _)) (LeO.refl _))
def simulate_Trace.f (k : Nat) (a0_0 : ByteArray) (l0_1 : List (S65)) (l0_2 : List (S68)) (l1 : List Int) (a2 : Int) (a3 : Int) : Option ((List (List Int)) × Int) :=
  (simulate_check.f k a0_0 l0_1 l0_2 l1 a3).bind fun c => if c = 0 then (runF k a0_0 l0_1 l0_2 l1 a2 a3).bind fun r => if r.2.2 = 0 then some (r.1.map (·.2), 0) else some ([], r.2.2) else some ([], c)
set_option maxRecDepth 100000 in
set_option maxHeartbeats 8000000 in
theorem simulate_Run.calls (k : Nat) (a0_0 : ByteArray) (A0_1 : Option Addr) (c0_1 : Nat) (l0_1 : List (S65)) (A0_2 : Option Addr) (c0_2 : Nat) (l0_2 : List (S68)) (A1 : Option Addr) (c1 : Nat) (l1 : List Int) (a2 : Int) (a3 : Int) (r1 : List Int) (r2 : List Int) (r3 : Int) (w : World) (hr0_1 : Kd.C k65 w A0_1 l0_1.length l0_1) (hc0_1 : l0_1.length ≤ c0_1) (hr0_2 : Kd.C k68 w A0_2 l0_2.length l0_2) (hc0_2 : l0_2.length ≤ c0_2) (hr1 : Kd.C (Kd.int .i64) w A1 l1.length l1) (hc1 : l1.length ≤ c1) (h : simulate_Run.f k a0_0 l0_1 l0_2 l1 a2 a3 = some (r1, r2, r3)) :
    Calls Try.prog 10 #[.agg #[.string a0_0, .slice A0_1 l0_1.length c0_1, .slice A0_2 l0_2.length c0_2], .slice A1 l1.length c1, .int .u64 a2, .int .i64 a3] w fun e w' => ∃ v0_ v1_ : Value, e = .returned (.tuple #[v0_, v1_, .int .i64 r3]) ∧ Kd.R (Kd.int .i64) 3 w' w.heap.size (fun k_ => some k_ ≠ (v1_ : Value).ownBlock) v0_ r1 ∧ Kd.R (Kd.int .i64) 3 w' w.heap.size (fun k_ => some k_ ≠ (v0_ : Value).ownBlock) v1_ r2 ∧ Below w.heap.size w w' := by
  have H0 := (Held.refl w).push (.cells #[.string a0_0, .slice A0_1 l0_1.length c0_1, .slice A0_2 l0_2.length c0_2] 25)
  obtain ⟨c, hck, h2⟩ := Option.bind_eq_some_iff.mp h
  have hcc := Aside0.mk (simulate_check.calls k a0_0 A0_1 c0_1 l0_1 A0_2 c0_2 l0_2 A1 c1 l1 a3 c _ (Kd.C_below hr0_1 H0.bel) hc0_1 (Kd.C_below hr0_2 H0.bel) hc0_2 (Kd.C_below hr1 H0.bel) hc1 hck)
  have nd0 := H0.cell 0 0 rfl rfl
  have nd1 := H0.cell 0 1 rfl rfl
  have nd2 := H0.cell 0 2 rfl rfl
  replace H0 := Aside0.mk H0
  replace h2 := Aside0.mk h2
  clear h hck
  go_enter Try.func10, Try.ntmps10
  go_wp2_with fail
  refine hcc.out.mono ?_
  rintro e w1 ⟨rfl, hb1⟩
  have H1 := H0.out.below hb1
  by_cases hz : c = 0
  · have b1 : (c != (0 : Int)) = false := by simp [hz]
    have hr := h2.out
    rw [if_pos hz] at hr
    obtain ⟨⟨l, s', e'⟩, hrun, hr2⟩ := Option.bind_eq_some_iff.mp hr
    have H2 := (H1.push (.cells #[.slice none 0 0] 26)).push (.cells #[.slice none 0 0] 26)
    simp only [World.size_alloc] at H2
    have x0 := H2.cell 2 0 rfl rfl
    have x1 := H2.cell 2 1 rfl rfl
    have x2 := H2.cell 2 2 rfl rfl
    have hI : IRun w1.heap.size w1.heap.size (w1.heap.size + 1) [] (fun k => k = w1.heap.size ∨ k = w1.heap.size + 1 ∨ (Value.slice none 0 0).ownBlock = some k) _ := ⟨.slice none 0 0, .slice none 0 0, H2.blk 1 rfl, H2.blk 0 rfl, own_nil _ _ _ _, Kd.R_nil _ _ _ _ _, ne_nil _, rfl⟩
    have hrc := Aside0.mk (simrun_in k a0_0 A0_1 c0_1 l0_1 A0_2 c0_2 l0_2 A1 c1 l1 a2 a3 _ _ _ _ l s' e' w1 _ (below_alloc (below_alloc (Below.refl w1.heap.size w1) _) _) (Kd.C_below hr0_1 H1.bel) hc0_1 (Kd.C_below hr0_2 H1.bel) hc0_2 (Kd.C_below hr1 H1.bel) hc1 (run1_see l0_1.length l0_2.length w1.heap.size w1.heap.size (w1.heap.size + 1) (Nat.le_refl _) (by omega) (by omega)) hI (enters_of Try.func25 (by kernel_rfl) rfl) hrun)
    replace hr2 := Aside0.mk hr2
    replace H1 := Aside0.mk H1
    replace H2 := Aside0.mk H2
    clear hz hr h2 hrun hcc nd0 nd1 nd2 hb1 hI
    go_wp2_with fail
    refine hrc.out.mono ?_
    rintro e w2 ⟨rfl, own, ⟨vl, vm, c1', c2', hol, hm, hne, rfl⟩, hch, hown⟩
    have H3 := H2.out.tail.tail.chg hch (fun k hk => by
      have := H1.out.size
      rcases hk with rfl | rfl | hk
      · omega
      · omega
      · simp [Value.ownBlock] at hk) (fun p hp hk => by
      have := H1.out.lt p hp
      rcases hk with hk | hk | hk
      · omega
      · omega
      · simp [Value.ownBlock] at hk)
    by_cases he : e' = 0
    · have b2 : (e' != (0 : Int)) = false := by simp [he]
      have hr := hr2.out
      simp only [if_pos he] at hr
      injection hr with hr
      injection hr with hr1 hr
      injection hr with hr3 hr4
      subst hr1 hr3 hr4
      obtain ⟨Al, cl, rfl⟩ := own_slice hol
      obtain ⟨Am, cm, rfl, hcm, _⟩ := Kd.R_reads hm
      have g1 := cell_of_one c1'
      have g2 := cell_of_one c2'
      replace hm := Aside0.mk hm
      replace hol := Aside0.mk hol
      replace hne := Aside0.mk hne
      replace H3 := Aside0.mk H3
      have hsz := Aside0.mk H1.out.size
      clear hch hown hr2 he hrc c1' c2' H0 H1 H2 x0 x1 x2
      go_wp2
      go_region
      all_goals go_wp2
      all_goals
        refine ⟨rfl, .tuple #[.slice Al (firedL l).length cl, .slice Am (lastL l).length cm, .int .i64 0], by simp [results, Try.f10, go_sem], .slice Al (firedL l).length cl, .slice Am (lastL l).length cm, rfl, ?_, ?_, H3.out.drew.bel⟩
        · exact Kd.R_lower (Kd.R_drew (Kd.R_of_own hol.out (fun k hk hk2 => hne.out k hk2.symm hk))) hsz.out
        · exact Kd.R_lower (Kd.R_drew (Kd.R_reok rfl hm.out (fun k hk hk2 => hne.out k hk hk2.symm))) hsz.out
    · have b2 : (e' != (0 : Int)) = true := by simp [he]
      have hr := hr2.out
      simp only [if_neg he] at hr
      injection hr with hr
      injection hr with hr1 hr
      injection hr with hr3 hr4
      subst hr1 hr3 hr4
      replace H3 := Aside0.mk H3
      clear hch hown hr2 he hrc c1' c2' H0 H1 H2 x0 x1 x2 hol hm hne
      go_wp2
      refine ⟨rfl, .tuple #[.slice none 0 0, .slice none 0 0, .int .i64 e'], by simp [results, Try.f10, go_sem], .slice none 0 0, .slice none 0 0, rfl, Kd.R_nil _ _ _ _ _, Kd.R_nil _ _ _ _ _, H3.out.bel⟩
  · have b1 : (c != (0 : Int)) = true := by simp [hz]
    have hr := h2.out
    rw [if_neg hz] at hr
    injection hr with hr
    injection hr with hr1 hr
    injection hr with hr3 hr4
    subst hr1 hr3 hr4
    replace H1 := Aside0.mk H1
    clear hcc hb1 hz h2
    go_wp2
    refine ⟨rfl, .tuple #[.slice none 0 0, .slice none 0 0, .int .i64 c], by simp [results, Try.f10, go_sem], .slice none 0 0, .slice none 0 0, rfl, Kd.R_nil _ _ _ _ _, Kd.R_nil _ _ _ _ _, H1.out.bel⟩
end Go.Proofs.Yteaimaafahpamaa.Hy
