/- By hand (fir_run): a part of this seat's proofs. -/
import Derived.Test.YtiamncgagfjegaaXCheck
import Derived.Test.YtiamncgagfjegaaXFir
import Derived.Test.YtiamncgagfjegaaH2
import Derived.Test.YtiamncgagfjegaaH6
namespace Go.Proofs.Ytiamncgagfjegaa.Hy
open Go.RowKit Go.Shelf Go.Proofs.YtiamncgagfjegaaW.PrintWords Go.Proofs.YtiamncgagfjegaaW.PrintLast Go.Proofs.YtiamncgagfjegaaW.PrintMore
set_option linter.unusedVariables false
set_option linter.unusedSimpArgs false
attribute [local go_sem] Oper.semAt_some
/-! ### firing.Run -/
def runL (k : Nat) (nm : ByteArray) (ps : List S55) (ts : List S58) : Nat → List Int → List Int → Option (List Int × Int × Int)
  | _, out, [] => some (out, 0, 0)
  | i, out, t :: r => (firing_Fire.f k nm ps ts out t).bind fun z => if z.2 = 0 then runL k nm ps ts (i + 1) z.1 r else some ([], z.2, (i : Int))
theorem runL_mono (nm : ByteArray) (ps : List S55) (ts : List S58) (k : Nat) : ∀ (seq : List Int) (i : Nat) (out : List Int), LeO (runL k nm ps ts i out seq) (runL (k + 1) nm ps ts i out seq) := by
  intro seq
  induction seq with
  | nil => intro i out; exact LeO.refl _
  | cons t r ih => intro i out; exact LeO.bind (firing_Fire.mono _ _ _ _ _ _) (fun z => LeO.ite (ih _ _) (LeO.refl _))
def firing_Run.f (k : Nat) (a0_0 : ByteArray) (l0_1 : List (S55)) (l0_2 : List (S58)) (l1 : List Int) (l2 : List Int) : Option (List Int × Int × Int) :=
  if (chkNet a0_0 l0_1 l0_2).1 ≠ 0 then some ([], (chkNet a0_0 l0_1 l0_2).1, 0) else (marking_Valid.f k l1 (l0_1.length : Int)).bind fun v => if v = true then (if l1.length ≤ 1000 then runL k a0_0 l0_1 l0_2 0 l1 l2 else none) else some ([], 2, 0)
theorem firing_Run.mono : ∀ a0 a1 a2 a3 a4 k, LeO (firing_Run.f k a0 a1 a2 a3 a4) (firing_Run.f (k + 1) a0 a1 a2 a3 a4) := by
  intro a0 a1 a2 a3 a4 k
  exact LeO.ite (LeO.refl _) (LeO.bind (marking_Valid.mono _ _ _) (fun v => LeO.ite (LeO.ite (runL_mono _ _ _ _ _ _ _) (LeO.refl _)) (LeO.refl _)))
theorem drop_rdI {l : List Int} {i : Nat} (h : i < l.length) : l.drop i = rd l (i : Int) :: l.drop (i + 1) := by
  rw [rd, Int.toNat_natCast, List.getD_eq_getElem?_getD, List.getElem?_eq_getElem h]; exact List.drop_eq_getElem_cons h
def runH (b : Nat) (nm : ByteArray) (A1 : Option Addr) (n1 c1 : Nat) (A2 : Option Addr) (n2 c2 : Nat) (x y : Int) : List (Nat × Obj) :=
  [(b + 1, .cells #[.int .i64 x, .int .i64 y] 38 (0, 0)), (b, .cells #[.string nm, .slice A1 n1 c1, .slice A2 n2 c2] 25 (0, 0))]
set_option maxRecDepth 100000 in
set_option maxHeartbeats 8000000 in
theorem firerun_in (k : Nat) (nm : ByteArray) (A1 : Option Addr) (c1 : Nat) (ps : List S55) (A2 : Option Addr) (c2 : Nat) (ts : List S58) (Am : Option Addr) (cm : Nat) (m : List Int) (As : Option Addr) (cs : Nat) (seq : List Int) (r1 : List Int) (r2 r3 : Int) (w : World)
    (hp : Kd.C k55 w A1 ps.length ps) (hc1 : ps.length ≤ c1) (hts : Kd.C k58 w A2 ts.length ts) (hc2 : ts.length ≤ c2) (hm : Kd.C (Kd.int .i64) w Am m.length m) (hcm : m.length ≤ cm) (hs : Kd.C (Kd.int .i64) w As seq.length seq) (hcs : seq.length ≤ cs)
    (h : firing_Run.f k nm ps ts m seq = some (r1, r2, r3)) :
    CallsIn Fence.wide 0 Try.prog 23 #[.agg #[.string nm, .slice A1 ps.length c1, .slice A2 ts.length c2], .slice Am m.length cm, .slice As seq.length cs] w fun e w' =>
      ∃ v, e = .returned (.tuple #[v, .agg #[.int .i64 r2, .int .i64 r3]]) ∧ Kd.R (Kd.int .i64) 3 w' w.heap.size (fun _ => True) v r1 ∧ Below w.heap.size w w' := by
  have H0 := ((Held.refl w).push (.cells #[.string nm, .slice A1 ps.length c1, .slice A2 ts.length c2] 25)).push (.cells #[.int .i64 0, .int .i64 0] 38)
  simp only [World.size_alloc] at H0
  have hchk := Aside0.mk (check_in nm A1 c1 ps A2 c2 ts _ ⟨Kd.C_below hp H0.bel, Kd.C_below hts H0.bel⟩ hc1 hc2)
  replace H0 := Aside0.mk (show Held w (runH w.heap.size nm A1 ps.length c1 A2 ts.length c2 0 0) _ from H0)
  have h' := Aside0.mk h
  have hmx := Kd.C_max hs
  clear h
  refine callsIn_of_wp_marks Try.func23 rfl trivial ?_ rfl
  simp only [Try.ntmps23, List.size_toArray, List.length_cons, List.length_nil, Nat.reduceAdd, Nat.reduceSub, Array.replicate_succ, Array.replicate_zero, List.push_toArray, List.append_toArray, List.nil_append, List.cons_append]
  gi_wp2
  refine ⟨trivial, rfl, hchk.out.mono ?_⟩
  rintro e W ⟨rfl, hb⟩
  have HW := H0.out.below hb
  clear hb hchk
  obtain ⟨⟨ce, ca⟩, hce⟩ : ∃ c, chkNet nm ps ts = c := ⟨_, rfl⟩
  rw [hce]
  have hf := h'.out
  rw [firing_Run.f, hce] at hf
  replace hf := Aside0.mk hf
  have H2 := HW.push (.cells #[.int .i64 ce, .int .i64 ca] 38)
  have f0 := H2.free 1 0 rfl
  have f1 := H2.free 1 1 rfl
  have g0 := H2.cell 1 0 rfl rfl
  have g1 := H2.cell 1 1 rfl rfl
  have nc1 := H2.cell 2 1 rfl rfl
  replace HW := Aside0.mk HW
  by_cases hz : ce = 0
  · have b1 : (ce != (0 : Int)) = false := by simp [hz]
    have hf2 := hf.out
    rw [if_neg (by simp [hz])] at hf2
    obtain ⟨v, hv, hf3⟩ := Option.bind_eq_some_iff.mp hf2
    have hval := Aside0.mk (callsIn_wide (n := 0).2 (marking_Valid.calls k Am cm m (ps.length : Int) v _ (Kd.C_below hm H2.bel) hcm hv))
    replace H2 := Aside0.mk H2
    replace hf3 := Aside0.mk hf3
    clear hz hf hf2 hv h'
    gi_wp2
    refine ⟨trivial, rfl, hval.out.mono ?_⟩
    rintro e W2 ⟨rfl, hb2⟩
    have H3 := H2.out.below hb2.below
    have f0 := H3.free 1 0 rfl
    have f1 := H3.free 1 1 rfl
    have g0 := H3.cell 1 0 rfl rfl
    have g1 := H3.cell 1 1 rfl rfl
    cases v with
    | false =>
      have hr := hf3.out
      rw [if_neg (by simp)] at hr
      injection hr with hr
      injection hr with hr1 hr2
      injection hr2 with hr2 hr3
      subst hr1 hr2 hr3
      have HE := Aside0.mk ((H3.set 1 0 rfl (.int .i64 2)).set 1 1 rfl (.int .i64 0))
      have z0 := HE.out.cell 1 0 rfl rfl
      have z1 := HE.out.cell 1 1 rfl rfl
      clear H3 hf3 hval H2 nc1
      gi_wp2
      refine ⟨.tuple #[.slice none 0 0, .agg #[.int .i64 2, .int .i64 0]], ?_, .slice none 0 0, rfl, Kd.R_nil _ _ _ _ _, HE.out.bel⟩
      simp [results, Try.f23, go_sem, z0, z1]
    | true =>
      have hr := hf3.out
      rw [if_pos rfl] at hr
      by_cases hl : m.length ≤ 1000
      · rw [if_pos hl] at hr
        have H4 := H3.push (.cells (madeCells #[.int .i64 0] m.length) 3)
        have hmk := print_make (P := Try.prog) 26 3 .i64 8 Try.underlying26 infoInt (by decide) m.length (by omega)
        have hg2 := Aside0.mk ((H4.blk 0 rfl).trans (show _ = some (Obj.cells (nums .i64 (List.replicate m.length 0)).toArray 3 (0, 0)) by rw [made_nums]))
        have hm4 := Aside0.mk (Kd.C_below hm H4.bel)
        replace hr := Aside0.mk hr
        replace H4 := Aside0.mk H4
        have hW2 := Aside0.mk (show w.heap.size + 1 < W2.heap.size from H3.lt _ (Held.mem (i := 1) rfl))
        clear H3 hf3 hval hb2 nc1 g0 g1 f0 f1 H2 HW H0
        gi_wp2_with ((with_reducible refine copy_ints rfl (.tmp 32) (.tmp 33) rfl W2.heap.size (List.replicate m.length 0) m Am m.length m.length m.length cm rfl rfl (List.length_replicate ..).symm rfl (List.length_replicate ..).symm hg2.out hm4.out ?_); intro w5 hg5 hc5 hs5; have H5 := Aside0.mk ((H4.out.upd 0 rfl hg5.out hc5.out)); clear hmk hg2 hm4 H4 hg5 hc5; replace hs5 := Aside0.mk hs5)
        gi_loopw [9, 37] (fun v i wr => ∃ (j : Nat) (os : List Int), i = .int .i64 j ∧ j ≤ seq.length ∧ Aside0 (runL k nm ps ts j os (seq.drop j) = some (r1, r2, r3)) ∧ Aside0 (Held w (runH w.heap.size nm A1 ps.length c1 A2 ts.length c2 0 0) wr) ∧ Aside0 (Kd.R (Kd.int .i64) 3 wr w.heap.size (fun q => q ≠ w.heap.size + 1) v os)) (fun _ i _ => seq.length - (intOf i).toNat)
        case atStart =>
          refine ⟨0, m, rfl, Nat.zero_le _, hr, ⟨H5.out.tail.tail⟩, ⟨?_⟩⟩
          have := H5.out.row 0 rfl m.length rfl (by omega)
          have hlt := H5.out.tail.tail.lt _ (Held.mem (i := 0) rfl)
          refine ⟨fun q hq => ?_, this.2⟩
          have hq2 : some W2.heap.size = some q := hq
          injection hq2 with hq2
          rw [← hq2]
          have h0 : w.heap.size + 1 < W2.heap.size := hW2.out
          omega
        case round =>
          clear hr H5 hs5
          obtain ⟨j, os, rfl, hj, hrun, hH, hR⟩ := hrel
          have nd0 := hH.out.cell 1 0 rfl rfl
          have nd1 := hH.out.cell 1 1 rfl rfl
          have nd2 := hH.out.cell 1 2 rfl rfl
          have f0 := hH.out.free 0 0 rfl
          have f1 := hH.out.free 0 1 rfl
          have g0 := hH.out.cell 0 0 rfl rfl
          have g1 := hH.out.cell 0 1 rfl rfl
          by_cases hlt : j < seq.length
          · obtain ⟨ad, hAs, hc⟩ := int_at (Kd.C_below hs hH.out.bel) j hlt
            subst hAs
            rw [show seq.getD j 0 = rd seq (j : Int) by simp [rd]] at hc
            have hrn := hrun.out
            rw [drop_rdI hlt, runL] at hrn
            obtain ⟨t, ht⟩ : ∃ t, rd seq (j : Int) = t := ⟨_, rfl⟩
            rw [ht] at hc hrn
            obtain ⟨⟨o2, e2⟩, hfire, hrn2⟩ := Option.bind_eq_some_iff.mp hrn
            obtain ⟨Ao, co, hv, hco, hCo⟩ := Kd.R_reads hR.out
            subst hv
            have hcall := Aside0.mk (callsIn_wide (n := 0).2 (firing_Fire.calls k nm A1 c1 ps A2 c2 ts Ao co os t o2 e2 wr (Kd.C_below hp hH.out.bel) hc1 (Kd.C_below hts hH.out.bel) hc2 hCo hco hfire))
            replace hrn2 := Aside0.mk hrn2
            clear hrn hfire hCo ht hrun
            gi_wp2
            refine ⟨trivial, rfl, hcall.out.mono ?_⟩
            rintro e W3 ⟨v, rfl, hR3, hb3⟩
            have H6 := hH.out.below hb3
            have hR6 := Aside0.mk (Kd.R_lower (Kd.R_mono (Kd.R_bound hR3) (ok' := fun q => q ≠ w.heap.size + 1) (fun q hq => by have h1 := hq.2.1; have h2 := hH.out.lt _ (Held.mem (i := 0) rfl); have h3 : w.heap.size + 1 < wr.heap.size := h2; omega)) hH.out.size)
            have f0 := H6.free 0 0 rfl
            have f1 := H6.free 0 1 rfl
            have g0 := H6.cell 0 0 rfl rfl
            have g1 := H6.cell 0 1 rfl rfl
            clear hcall hb3 hR3 hR
            by_cases hz : e2 = 0
            · have b1 : (e2 != (0 : Int)) = false := by simp [hz]
              have hrn3 := hrn2.out
              rw [if_pos hz] at hrn3
              replace hrn3 := Aside0.mk hrn3
              have hlt2 := Aside0.mk (show j + 1 ≤ seq.length from hlt)
              replace H6 := Aside0.mk H6
              clear hz hrn2
              gi_wp2
              go_roundw
              case rel => exact ⟨j + 1, o2, by go_num, hlt2.out, hrn3, H6, hR6⟩
              case measure => have := hlt2.out; simp [intOf]; omega
            · have b1 : (e2 != (0 : Int)) = true := by simp [hz]
              have hr := hrn2.out
              rw [if_neg hz] at hr
              injection hr with hr
              injection hr with hr1 hr2
              injection hr2 with hr2 hr3
              subst hr1 hr2 hr3
              have HE := Aside0.mk ((H6.set 0 0 rfl (.int .i64 e2)).set 0 1 rfl (.int .i64 j))
              have z0 := HE.out.cell 0 0 rfl rfl
              have z1 := HE.out.cell 0 1 rfl rfl
              clear H6 hrn2
              gi_wp2
              refine ⟨.tuple #[.slice none 0 0, .agg #[.int .i64 e2, .int .i64 j]], ?_, .slice none 0 0, rfl, Kd.R_nil _ _ _ _ _, HE.out.bel⟩
              simp [results, Try.f23, go_sem, z0, z1]
          · obtain rfl : j = seq.length := by omega
            have hr := hrun.out
            rw [List.drop_length, runL] at hr
            injection hr with hr
            injection hr with hr1 hr2
            injection hr2 with hr2 hr3
            subst hr1 hr2 hr3
            obtain ⟨Ao, co, hv, hco, hCo⟩ := Kd.R_reads hR.out
            subst hv
            have HE := Aside0.mk ((hH.out.set 0 0 rfl (.int .i64 0)).set 0 1 rfl (.int .i64 0))
            have z0 := HE.out.cell 0 0 rfl rfl
            have z1 := HE.out.cell 0 1 rfl rfl
            clear hrun hCo hco
            gi_wp2
            refine ⟨.tuple #[.slice Ao os.length co, .agg #[.int .i64 0, .int .i64 0]], ?_, _, rfl, ?_, HE.out.bel⟩
            · simp [results, Try.f23, go_sem, z0, z1]
            · have h1 := hR.out
              exact Kd.R_mono (Kd.R_far (Kd.R_far h1 (fun q hq => hq) _) (fun q hq => hq) _) (fun _ _ => trivial)
      · rw [if_neg hl] at hr; simp at hr
  · have b1 : (ce != (0 : Int)) = true := by simp [hz]
    have hr := hf.out
    rw [if_pos hz] at hr
    injection hr with hr
    injection hr with hr1 hr2
    injection hr2 with hr2 hr3
    subst hr1 hr2 hr3
    clear hz hf h' nc1
    have HE := Aside0.mk ((H2.set 1 0 rfl (.int .i64 ce)).set 1 1 rfl (.int .i64 0)).drew
    clear H2
    have z0 := HE.out.cell 1 0 rfl rfl
    have z1 := HE.out.cell 1 1 rfl rfl
    gi_wp2
    gi_region
    all_goals
      gi_wp2
      refine ⟨.tuple #[.slice none 0 0, .agg #[.int .i64 ce, .int .i64 0]], ?_, .slice none 0 0, rfl, Kd.R_nil _ _ _ _ _, HE.out.bel⟩
      simp [results, Try.f23, go_sem, z0, z1]
theorem firing_Run.calls (k : Nat) (a0_0 : ByteArray) (A0_1 : Option Addr) (c0_1 : Nat) (l0_1 : List (S55)) (A0_2 : Option Addr) (c0_2 : Nat) (l0_2 : List (S58)) (A1 : Option Addr) (c1 : Nat) (l1 : List Int) (A2 : Option Addr) (c2 : Nat) (l2 : List Int) (r1 : List Int) (r2 : Int) (r3 : Int) (w : World) (hr0_1 : Kd.C k55 w A0_1 l0_1.length l0_1) (hc0_1 : l0_1.length ≤ c0_1) (hr0_2 : Kd.C k58 w A0_2 l0_2.length l0_2) (hc0_2 : l0_2.length ≤ c0_2) (hr1 : Kd.C (Kd.int .i64) w A1 l1.length l1) (hc1 : l1.length ≤ c1) (hr2 : Kd.C (Kd.int .i64) w A2 l2.length l2) (hc2 : l2.length ≤ c2) (h : firing_Run.f k a0_0 l0_1 l0_2 l1 l2 = some (r1, r2, r3)) :
    Calls Try.prog 23 #[.agg #[.string a0_0, .slice A0_1 l0_1.length c0_1, .slice A0_2 l0_2.length c0_2], .slice A1 l1.length c1, .slice A2 l2.length c2] w fun e w' => ∃ v0_ : Value, e = .returned (.tuple #[v0_, .agg #[.int .i64 r2, .int .i64 r3]]) ∧ Kd.R (Kd.int .i64) 3 w' w.heap.size (fun _ => True) v0_ r1 ∧ Below w.heap.size w w' :=
  (callsIn_wide (n := 0)).1 (firerun_in k a0_0 A0_1 c0_1 l0_1 A0_2 c0_2 l0_2 A1 c1 l1 A2 c2 l2 r1 r2 r3 w hr0_1 hc0_1 hr0_2 hc0_2 hr1 hc1 hr2 hc2 h)

end Go.Proofs.Ytiamncgagfjegaa.Hy
