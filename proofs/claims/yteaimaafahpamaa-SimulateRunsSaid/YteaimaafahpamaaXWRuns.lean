/- By hand (sim_wruns): a part of this seat's proofs. -/
import Derived.Test.YteaimaafahpamaaM3
import Derived.Test.YteaimaafahpamaaH8
import Derived.Test.YteaimaafahpamaaH11
import Derived.Test.YteaimaafahpamaaH25
namespace Go.Proofs.Yteaimaafahpamaa.Hy
open Go.RowKit Go.Shelf Go.Proofs.YteaimaafahpamaaW.PrintWords Go.Proofs.YteaimaafahpamaaW.PrintLast Go.Proofs.YteaimaafahpamaaW.PrintMore
set_option linter.unusedVariables false
set_option linter.unusedSimpArgs false
attribute [local go_sem] Oper.semAt_some
/-! ### SimulateRuns, walked by hand -/
set_option maxRecDepth 100000 in
set_option maxHeartbeats 8000000 in
theorem SimulateRuns_walk (nm : ByteArray) (A1 : Option Addr) (c1 : Nat) (ps : List S65) (A2 : Option Addr) (c2 : Nat) (ts : List S68) (Aw : Option Addr) (cw : Nat) (ws : List Int) (s : Nat) (steps : Int) (w : World)
    (hp : Kd.C k65 w A1 ps.length ps) (hc1 : ps.length ≤ c1) (hts : Kd.C k68 w A2 ts.length ts) (hc2 : ts.length ≤ c2) (hw : Kd.C (Kd.int .i64) w Aw ws.length ws) (hcw : ws.length ≤ cw) :
    Calls Try.prog 4 #[.agg #[.string nm, .slice A1 ps.length c1, .slice A2 ts.length c2], .agg #[.slice Aw ws.length cw, .int .u64 (s : Int), .int .i64 steps]] w fun e w' => e = .returned (.bool true) ∧ Below w.heap.size w w' := by
  have hwl := Kd.C_max hw
  have hex := Aside0.mk (fun W => petrinetlaw53_exampleHolds.calls _ true W (example_ev.ex).choose_spec)
  have H0 := ((Held.refl w).push (.cells #[.string nm, .slice A1 ps.length c1, .slice A2 ts.length c2] 25)).push (.cells #[.slice Aw ws.length cw, .int .u64 (s : Int), .int .i64 steps] 29)
  simp only [World.size_alloc] at H0
  have hsm := Aside0.mk ((callsIn_wide (n := 0)).1 (small_in nm A1 c1 ps A2 c2 ts _ (Kd.C_below hp H0.bel) (Kd.C_below hts H0.bel)))
  have nd0 := H0.cell 1 0 rfl rfl
  have nd1 := H0.cell 1 1 rfl rfl
  have nd2 := H0.cell 1 2 rfl rfl
  replace H0 := Aside0.mk H0
  by_cases hs : small nm ps ts
  · rw [smV, if_pos hs] at hsm
    have hlk := Aside0.mk (small_lenOk hs)
    have hl12 : ps.length ≤ 26 ∧ ts.length ≤ 26 := ⟨hs.1, hs.2.1⟩
    clear hs
    obtain ⟨b, hb⟩ : ∃ b, petrinetlaw53_long.f ws (s : Int) steps = some b := by
      rw [petrinetlaw53_long.f]
      split
      · split <;> exact ⟨_, rfl⟩
      · exact ⟨_, rfl⟩
    replace hb := Aside0.mk hb
    go_enter Try.func4, Try.ntmps4
    go_wp2_with fail
    refine hsm.out.mono ?_
    rintro e W1 ⟨rfl, hb1⟩
    have H1 := (H0.out.below hb1).push (.cells #[.string nm, .slice A1 ps.length c1, .slice A2 ts.length c2] 25)
    have a0 := H1.cell 1 0 rfl rfl
    have a1 := H1.cell 1 1 rfl rfl
    have a2 := H1.cell 1 2 rfl rfl
    have n0 := H1.cell 0 0 rfl rfl
    have n1 := H1.cell 0 1 rfl rfl
    have n2 := H1.cell 0 2 rfl rfl
    have hlg := Aside0.mk (petrinetlaw53_long.calls Aw cw ws (s : Int) steps b _ (Kd.C_below hw H1.bel) hcw hb.out)
    replace H1 := Aside0.mk H1
    clear hb1 hsm nd0 nd1 nd2 H0
    go_wp2_with fail
    refine hlg.out.mono ?_
    rintro e W2 ⟨rfl, hb2⟩
    have H2 := H1.out.below hb2
    have a0 := H2.cell 1 0 rfl rfl
    have a1 := H2.cell 1 1 rfl rfl
    have a2 := H2.cell 1 2 rfl rfl
    have n0 := H2.cell 0 0 rfl rfl
    have n1 := H2.cell 0 1 rfl rfl
    have n2 := H2.cell 0 2 rfl rfl
    clear hb2 hlg H1
    cases b with
    | true =>
      replace H2 := Aside0.mk H2
      go_wp2_with fail
      refine (hex.out _).mono ?_
      rintro e W3 ⟨rfl, hb3⟩
      have H3 := Aside0.mk (H2.out.below hb3)
      clear hb3 H2 hex a0 a1 a2 n0 n1 n2
      go_wp2
      go_ret
      exact ⟨rfl, H3.out.bel⟩
    | false =>
      have hex0 := 0
      by_cases hc0 : simChk nm ps ts ws steps = 0
      · have h0 := simChk_zero hc0
        have hC := hc0
        by_cases he : (runR' ps ts ws s steps).2.2 = 0
        · have hR : SimRun nm ps ts ws s steps = ((runR' ps ts ws s steps).1.map (·.1), lastL ((-1, m0L ps) :: (runR' ps ts ws s steps).1), 0) := by rw [SimRun, if_pos hc0, if_pos he]
          have hT : SimTrace nm ps ts ws s steps = (m0L ps :: (runR' ps ts ws s steps).1.map (·.2), 0) := by rw [SimTrace, if_pos hc0, if_pos he]
          have hF : SimRef ps ts ws s steps = ((runR' ps ts ws s steps).1.map (·.1), m0L ps :: (runR' ps ts ws s steps).1.map (·.2), ((runR' ps ts ws s steps).2.1 : Int), true) := by rw [SimRef, if_pos he]
          have hrl := run_len ps ts ws s steps h0.st.2
          have hmk : ∀ x ∈ m0L ps :: (runR' ps ts ws s steps).1.map (·.2), x.length ≤ 1000000 := by
            intro x hx
            rcases List.mem_cons.1 hx with rfl | hx
            · rw [h0.way.mark.len]; omega
            · obtain ⟨p, hp, rfl⟩ := List.mem_map.1 hx
              rw [(walk_pos _ _ _ h0.way p hp).2.2.2.len]; omega
          have hlast := last_eq (m0L ps) (runR' ps ts ws s steps).1
          have hL : (m0L ps :: (runR' ps ts ws s steps).1.map (·.2)).length ≤ 10001 ∧ 1 ≤ (m0L ps :: (runR' ps ts ws s steps).1.map (·.2)).length := by simp; omega
          have hfl : ((runR' ps ts ws s steps).1.map (·.1)).length ≤ 10000 := by simp; omega
          obtain ⟨f, hf⟩ : ∃ f, (runR' ps ts ws s steps).1.map (·.1) = f := ⟨_, rfl⟩
          obtain ⟨Mk, hMk⟩ : ∃ Mk, m0L ps :: (runR' ps ts ws s steps).1.map (·.2) = Mk := ⟨_, rfl⟩
          obtain ⟨M, hM⟩ : ∃ M, lastL ((-1, m0L ps) :: (runR' ps ts ws s steps).1) = M := ⟨_, rfl⟩
          obtain ⟨x, hx⟩ : ∃ x, ((runR' ps ts ws s steps).2.1 : Int) = x := ⟨_, rfl⟩
          rw [hf, hM] at hR
          rw [hMk] at hT hmk hL hlast
          rw [hM] at hlast
          rw [hf, hMk, hx] at hF
          rw [hf] at hfl
          clear hf hMk hM hx he hrl hc0
          obtain ⟨k5, hk5⟩ := (same_ev f (by omega)).ex
          obtain ⟨hL1, hL2⟩ := hL
          have hMm : M ∈ Mk := by rw [hlast, List.getD_eq_getElem?_getD, List.getElem?_eq_getElem (by omega)]; exact List.getElem_mem _
          obtain ⟨k6, hk6⟩ := (same_ev M (by have := hmk M hMm; omega)).ex
          obtain ⟨k7, hk7⟩ := (lists_ev Mk (by omega) hmk).ex
          replace hk5 := Aside0.mk hk5
          replace hk6 := Aside0.mk hk6
          replace hk7 := Aside0.mk hk7
          replace hlast := Aside0.mk hlast
          clear hmk hMm
          obtain ⟨k1, hk1⟩ := (SimRun_ev nm ps ts ws s steps (by omega)).ex
          obtain ⟨k2, hk2⟩ := (SimTrace_ev nm ps ts ws s steps (by omega)).ex
          obtain ⟨k3, hk3⟩ := (refcheck_ev nm ps ts ws steps (by omega) (by omega) (by omega) hlk.out).ex
          rw [hR] at hk1
          rw [hT] at hk2
          rw [hC] at hk3
          have hcall := Aside0.mk (simulate_Run.calls k1 nm A1 c1 ps A2 c2 ts Aw cw ws (s : Int) steps f M 0 W2 (Kd.C_below hp H2.bel) hc1 (Kd.C_below hts H2.bel) hc2 (Kd.C_below hw H2.bel) hcw hk1)
          replace hk2 := Aside0.mk hk2
          replace hk3 := Aside0.mk hk3
          replace H2 := Aside0.mk H2
          clear hk1 hex0 hR hT hC
          go_wp2_with fail
          refine hcall.out.mono ?_
          rintro e W3 ⟨v0, v1, rfl, hv0, hv1, hb3⟩
          have H3 := H2.out.below hb3
          obtain ⟨Al, cl, rfl, hcl, hCl⟩ := Kd.R_reads hv0
          obtain ⟨Am, cm, rfl, hcm, hCm⟩ := Kd.R_reads hv1
          clear hcall hv0 hv1 hb3 H2 a0 a1 a2 n0 n1 n2
          have a0 := H3.cell 1 0 rfl rfl
          have a1 := H3.cell 1 1 rfl rfl
          have a2 := H3.cell 1 2 rfl rfl
          have n0 := H3.cell 0 0 rfl rfl
          have n1 := H3.cell 0 1 rfl rfl
          have n2 := H3.cell 0 2 rfl rfl
          have hcall := Aside0.mk (simulate_Trace.calls k2 nm A1 c1 ps A2 c2 ts Aw cw ws (s : Int) steps Mk 0 W3 (Kd.C_below hp H3.bel) hc1 (Kd.C_below hts H3.bel) hc2 (Kd.C_below hw H3.bel) hcw hk2.out)
          replace H3 := Aside0.mk H3
          replace hCl := Aside0.mk hCl
          replace hCm := Aside0.mk hCm
          go_wp2_with fail
          refine hcall.out.mono ?_
          rintro e W4 ⟨v2, rfl, hv2, hb4⟩
          have H4 := H3.out.below hb4
          obtain ⟨Ak, ck, rfl, hck, hCk⟩ := Kd.R_reads (Kd.S_R hv2)
          have hCl := Aside0.mk (Kd.C_below hCl.out hb4)
          have hCm := Aside0.mk (Kd.C_below hCm.out hb4)
          clear hcall hv2 hb4 H3 a0 a1 a2 n0 n1 n2
          have a0 := H4.cell 1 0 rfl rfl
          have a1 := H4.cell 1 1 rfl rfl
          have a2 := H4.cell 1 2 rfl rfl
          have n0 := H4.cell 0 0 rfl rfl
          have n1 := H4.cell 0 1 rfl rfl
          have n2 := H4.cell 0 2 rfl rfl
          have hcall := Aside0.mk (petrinetref53_Check.calls k3 nm A1 c1 ps A2 c2 ts Aw cw ws steps 0 W4 (Kd.C_below hp H4.bel) hc1 (Kd.C_below hts H4.bel) hc2 (Kd.C_below hw H4.bel) hcw hk3.out)
          replace H4 := Aside0.mk H4
          replace hCk := Aside0.mk hCk
          go_wp2_with fail
          refine hcall.out.mono ?_
          rintro e W5 ⟨rfl, hb5⟩
          have H5 := H4.out.below hb5
          have hCl := Aside0.mk (Kd.C_below hCl.out hb5)
          have hCm := Aside0.mk (Kd.C_below hCm.out hb5)
          have hCk := Aside0.mk (Kd.C_below hCk.out hb5)
          clear hcall hb5 H4 a0 a1 a2 n0 n1 n2 hk2 hk3
          have a0 := H5.cell 1 0 rfl rfl
          have a1 := H5.cell 1 1 rfl rfl
          have a2 := H5.cell 1 2 rfl rfl
          have n0 := H5.cell 0 0 rfl rfl
          have n1 := H5.cell 0 1 rfl rfl
          have n2 := H5.cell 0 2 rfl rfl
          obtain ⟨k4, hk4⟩ := (SimRef_ev h0 hlk.out s).ex
          rw [hF] at hk4
          have hcall := Aside0.mk (petrinetref53_Run.calls k4 nm A1 c1 ps A2 c2 ts Aw cw ws (s : Int) steps f Mk x true W5 (Kd.C_below hp H5.bel) hc1 (Kd.C_below hts H5.bel) hc2 (Kd.C_below hw H5.bel) hcw hk4)
          replace H5 := Aside0.mk H5
          clear hk4 hF
          go_wp2_with fail
          refine hcall.out.mono ?_
          rintro e W6 ⟨v3, v4, rfl, hv3, hv4, hb6⟩
          obtain ⟨Ax, cx, rfl, hcx, hCx⟩ := Kd.R_reads hv3
          obtain ⟨Ay, cy, rfl, hcy, hCy⟩ := Kd.R_reads (Kd.S_R hv4)
          have hpu := below_alloc (Below.refl W6.heap.size W6) (.cells #[.slice Ax f.length cx, .slice Ay Mk.length cy, .int .u64 x] 50)
          have H6 := (H5.out.below hb6).push (.cells #[.slice Ax f.length cx, .slice Ay Mk.length cy, .int .u64 x] 50)
          have hCl := Kd.C_below (Kd.C_below hCl.out hb6) hpu
          have hCm := Kd.C_below (Kd.C_below hCm.out hb6) hpu
          have hCk := Kd.C_below (Kd.C_below hCk.out hb6) hpu
          have hCx := Kd.C_below hCx hpu
          have hCy := Kd.C_below hCy hpu
          have hsame1 := Aside0.mk (petrinetref04_Same.calls k5 Al cl f Ax cx f true _ hCl hcl hCx hcx hk5.out)
          replace H6 := Aside0.mk H6
          replace hCl := Aside0.mk hCl
          replace hCm := Aside0.mk hCm
          replace hCk := Aside0.mk hCk
          replace hCx := Aside0.mk hCx
          replace hCy := Aside0.mk hCy
          have x0 := H6.out.cell 0 0 rfl rfl
          have x1 := H6.out.cell 0 1 rfl rfl
          clear hcall hv3 hv4 hb6 H5 a0 a1 a2 n0 n1 n2 hpu
          obtain ⟨q, hq⟩ : ∃ q, Mk.length = q + 1 := ⟨Mk.length - 1, by omega⟩
          have hwr : wrap64 ((Mk.length : Int) - 1) = (q : Int) := by rw [w_id (by omega) (by omega)]; omega
          have hqlt : q < Mk.length := by omega
          have hMq : Mk.getD q [] = M := by rw [hlast.out, hq]; rfl
          replace hq := Aside0.mk hq
          clear hlast
          go_wp2_with fail
          refine hsame1.out.mono ?_
          rintro e W7 ⟨rfl, hd7⟩
          have hb7 := hd7.below
          have H7 := H6.out.below hb7
          have hCm7 := Aside0.mk (Kd.C_below hCm.out hb7)
          have hCk7 := Aside0.mk (Kd.C_below hCk.out hb7)
          have hCy7 := Kd.C_below hCy.out hb7
          obtain ⟨ad, ce, hAy, hcl2, hk, hcs⟩ := ReadsRow.get_ hCy7 ([] : List Int) (q : Int) (by omega) (by omega)
          subst hAy
          simp only [Int.toNat_natCast, hMq] at hk hcs
          obtain ⟨Aq, cq, hce, hcq, hKq⟩ := hk
          subst hce
          have gm : W7.cell? (ad.add (Mk.length - 1)) = some (.slice Aq M.length cq) := by rw [show Mk.length - 1 = q by have := hq.out; omega]; simpa [Kd.slice] using hcs 0 _ rfl
          have hsame2 := Aside0.mk (petrinetref04_Same.calls k6 Am cm M Aq cq M true W7 hCm7.out hcm hKq hcq hk6.out)
          have x1 := H7.cell 0 1 rfl rfl
          replace H7 := Aside0.mk H7
          replace hCy7 := Aside0.mk hCy7
          clear hsame1 hd7 hb7 hCm7 hcl2 hcs hMq H6 x0
          go_wp2_with fail
          refine hsame2.out.mono ?_
          rintro e W8 ⟨rfl, hd8⟩
          have hb8 := hd8.below
          have H8 := H7.out.below hb8
          have hlists := Aside0.mk (petrinetref04_Lists.calls k7 Ak ck Mk (some ad) cy Mk true W8 (Kd.C_below hCk7.out hb8) hck (Kd.C_below hCy7.out hb8) hcy hk7.out)
          have x1 := H8.cell 0 1 rfl rfl
          replace H8 := Aside0.mk H8
          clear hsame2 hd8 hb8 hCk7 hCy7 H7 gm
          go_wp2_with fail
          refine hlists.out.mono ?_
          rintro e W10 ⟨rfl, hd10⟩
          have H10 := Aside0.mk (H8.out.below hd10.below)
          clear hlists hd10 H8 x1
          go_wp2_with fail
          refine (hex.out _).mono ?_
          rintro e W9 ⟨rfl, hb9⟩
          have H9 := Aside0.mk (H10.out.below hb9)
          clear hb9
          go_wp2
          go_ret
          exact ⟨rfl, H9.out.bel⟩

        · have he3 : (runR' ps ts ws s steps).2.2 = 3 := (walk_err (ps := ps) (ts := ts) (ws := ws) steps.toNat (m0L ps) s).resolve_left he
          have hR : SimRun nm ps ts ws s steps = ([], [], 3) := by rw [SimRun, if_pos hc0, if_neg he, he3]
          have hT : SimTrace nm ps ts ws s steps = ([], 3) := by rw [SimTrace, if_pos hc0, if_neg he, he3]
          have hF : SimRef ps ts ws s steps = ([], [], 0, false) := by rw [SimRef, if_neg he]
          clear he he3 hc0
          obtain ⟨k1, hk1⟩ := (SimRun_ev nm ps ts ws s steps (by omega)).ex
          obtain ⟨k2, hk2⟩ := (SimTrace_ev nm ps ts ws s steps (by omega)).ex
          obtain ⟨k3, hk3⟩ := (refcheck_ev nm ps ts ws steps (by omega) (by omega) (by omega) hlk.out).ex
          rw [hR] at hk1
          rw [hT] at hk2
          rw [hC] at hk3
          have hcall := Aside0.mk (simulate_Run.calls k1 nm A1 c1 ps A2 c2 ts Aw cw ws (s : Int) steps [] [] 3 W2 (Kd.C_below hp H2.bel) hc1 (Kd.C_below hts H2.bel) hc2 (Kd.C_below hw H2.bel) hcw hk1)
          replace hk2 := Aside0.mk hk2
          replace hk3 := Aside0.mk hk3
          replace H2 := Aside0.mk H2
          clear hk1 hex0 hR hT hC
          go_wp2_with fail
          refine hcall.out.mono ?_
          rintro e W3 ⟨v0, v1, rfl, hv0, hv1, hb3⟩
          have H3 := H2.out.below hb3
          obtain ⟨Al, cl, rfl, hcl, hCl⟩ := Kd.R_reads hv0
          obtain ⟨Am, cm, rfl, hcm, hCm⟩ := Kd.R_reads hv1
          clear hcall hv0 hv1 hb3 H2 a0 a1 a2 n0 n1 n2
          have a0 := H3.cell 1 0 rfl rfl
          have a1 := H3.cell 1 1 rfl rfl
          have a2 := H3.cell 1 2 rfl rfl
          have n0 := H3.cell 0 0 rfl rfl
          have n1 := H3.cell 0 1 rfl rfl
          have n2 := H3.cell 0 2 rfl rfl
          have hcall := Aside0.mk (simulate_Trace.calls k2 nm A1 c1 ps A2 c2 ts Aw cw ws (s : Int) steps [] 3 W3 (Kd.C_below hp H3.bel) hc1 (Kd.C_below hts H3.bel) hc2 (Kd.C_below hw H3.bel) hcw hk2.out)
          replace H3 := Aside0.mk H3
          replace hCl := Aside0.mk hCl
          replace hCm := Aside0.mk hCm
          go_wp2_with fail
          refine hcall.out.mono ?_
          rintro e W4 ⟨v2, rfl, hv2, hb4⟩
          have H4 := H3.out.below hb4
          obtain ⟨Ak, ck, rfl, hck, hCk⟩ := Kd.R_reads (Kd.S_R hv2)
          have hCl := Aside0.mk (Kd.C_below hCl.out hb4)
          have hCm := Aside0.mk (Kd.C_below hCm.out hb4)
          clear hcall hv2 hb4 H3 a0 a1 a2 n0 n1 n2
          have a0 := H4.cell 1 0 rfl rfl
          have a1 := H4.cell 1 1 rfl rfl
          have a2 := H4.cell 1 2 rfl rfl
          have n0 := H4.cell 0 0 rfl rfl
          have n1 := H4.cell 0 1 rfl rfl
          have n2 := H4.cell 0 2 rfl rfl
          have hcall := Aside0.mk (petrinetref53_Check.calls k3 nm A1 c1 ps A2 c2 ts Aw cw ws steps 0 W4 (Kd.C_below hp H4.bel) hc1 (Kd.C_below hts H4.bel) hc2 (Kd.C_below hw H4.bel) hcw hk3.out)
          replace H4 := Aside0.mk H4
          replace hCk := Aside0.mk hCk
          go_wp2_with fail
          refine hcall.out.mono ?_
          rintro e W5 ⟨rfl, hb5⟩
          have H5 := H4.out.below hb5
          have hCl := Aside0.mk (Kd.C_below hCl.out hb5)
          have hCm := Aside0.mk (Kd.C_below hCm.out hb5)
          have hCk := Aside0.mk (Kd.C_below hCk.out hb5)
          clear hcall hb5 H4 a0 a1 a2 n0 n1 n2 hk2 hk3
          have a0 := H5.cell 1 0 rfl rfl
          have a1 := H5.cell 1 1 rfl rfl
          have a2 := H5.cell 1 2 rfl rfl
          have n0 := H5.cell 0 0 rfl rfl
          have n1 := H5.cell 0 1 rfl rfl
          have n2 := H5.cell 0 2 rfl rfl
          obtain ⟨k4, hk4⟩ := (SimRef_ev h0 hlk.out s).ex
          rw [hF] at hk4
          have hcall := Aside0.mk (petrinetref53_Run.calls k4 nm A1 c1 ps A2 c2 ts Aw cw ws (s : Int) steps [] [] 0 false W5 (Kd.C_below hp H5.bel) hc1 (Kd.C_below hts H5.bel) hc2 (Kd.C_below hw H5.bel) hcw hk4)
          replace H5 := Aside0.mk H5
          clear hk4 hF
          go_wp2_with fail
          refine hcall.out.mono ?_
          rintro e W6 ⟨v3, v4, rfl, hv3, hv4, hb6⟩
          obtain ⟨Ax, cx, rfl, hcx, hCx⟩ := Kd.R_reads hv3
          obtain ⟨Ay, cy, rfl, hcy, hCy⟩ := Kd.R_reads (Kd.S_R hv4)
          have H6 := Aside0.mk ((H5.out.below hb6).push (.cells #[.slice Ax 0 cx, .slice Ay 0 cy, .int .u64 0] 50))
          clear hcall hv3 hv4 hb6 H5 a0 a1 a2 n0 n1 n2 hCx hCy
          go_wp2_with fail
          refine (hex.out _).mono ?_
          rintro e W9 ⟨rfl, hb9⟩
          have H9 := Aside0.mk (H6.out.below hb9)
          clear hb9
          go_wp2
          go_ret
          exact ⟨rfl, H9.out.bel⟩

      · obtain ⟨c, hcc⟩ : ∃ c, simChk nm ps ts ws steps = c := ⟨_, rfl⟩
        have hR : SimRun nm ps ts ws s steps = ([], [], c) := by rw [SimRun, if_neg hc0, hcc]
        have hT : SimTrace nm ps ts ws s steps = ([], c) := by rw [SimTrace, if_neg hc0, hcc]
        have hC := hcc
        have hc : ¬ c = 0 := by rw [← hcc]; exact hc0
        clear hcc hc0
        obtain ⟨k1, hk1⟩ := (SimRun_ev nm ps ts ws s steps (by omega)).ex
        obtain ⟨k2, hk2⟩ := (SimTrace_ev nm ps ts ws s steps (by omega)).ex
        obtain ⟨k3, hk3⟩ := (refcheck_ev nm ps ts ws steps (by omega) (by omega) (by omega) hlk.out).ex
        rw [hR] at hk1
        rw [hT] at hk2
        rw [hC] at hk3
        have hcall := Aside0.mk (simulate_Run.calls k1 nm A1 c1 ps A2 c2 ts Aw cw ws (s : Int) steps [] [] c W2 (Kd.C_below hp H2.bel) hc1 (Kd.C_below hts H2.bel) hc2 (Kd.C_below hw H2.bel) hcw hk1)
        replace hk2 := Aside0.mk hk2
        replace hk3 := Aside0.mk hk3
        replace H2 := Aside0.mk H2
        clear hk1 hex0 hR hT hC
        go_wp2_with fail
        refine hcall.out.mono ?_
        rintro e W3 ⟨v0, v1, rfl, hv0, hv1, hb3⟩
        have H3 := H2.out.below hb3
        obtain ⟨Al, cl, rfl, hcl, hCl⟩ := Kd.R_reads hv0
        obtain ⟨Am, cm, rfl, hcm, hCm⟩ := Kd.R_reads hv1
        clear hcall hv0 hv1 hb3 H2 a0 a1 a2 n0 n1 n2
        have a0 := H3.cell 1 0 rfl rfl
        have a1 := H3.cell 1 1 rfl rfl
        have a2 := H3.cell 1 2 rfl rfl
        have n0 := H3.cell 0 0 rfl rfl
        have n1 := H3.cell 0 1 rfl rfl
        have n2 := H3.cell 0 2 rfl rfl
        have hcall := Aside0.mk (simulate_Trace.calls k2 nm A1 c1 ps A2 c2 ts Aw cw ws (s : Int) steps [] c W3 (Kd.C_below hp H3.bel) hc1 (Kd.C_below hts H3.bel) hc2 (Kd.C_below hw H3.bel) hcw hk2.out)
        replace H3 := Aside0.mk H3
        replace hCl := Aside0.mk hCl
        replace hCm := Aside0.mk hCm
        go_wp2_with fail
        refine hcall.out.mono ?_
        rintro e W4 ⟨v2, rfl, hv2, hb4⟩
        have H4 := H3.out.below hb4
        obtain ⟨Ak, ck, rfl, hck, hCk⟩ := Kd.R_reads (Kd.S_R hv2)
        have hCl := Aside0.mk (Kd.C_below hCl.out hb4)
        have hCm := Aside0.mk (Kd.C_below hCm.out hb4)
        clear hcall hv2 hb4 H3 a0 a1 a2 n0 n1 n2
        have a0 := H4.cell 1 0 rfl rfl
        have a1 := H4.cell 1 1 rfl rfl
        have a2 := H4.cell 1 2 rfl rfl
        have n0 := H4.cell 0 0 rfl rfl
        have n1 := H4.cell 0 1 rfl rfl
        have n2 := H4.cell 0 2 rfl rfl
        have hcall := Aside0.mk (petrinetref53_Check.calls k3 nm A1 c1 ps A2 c2 ts Aw cw ws steps c W4 (Kd.C_below hp H4.bel) hc1 (Kd.C_below hts H4.bel) hc2 (Kd.C_below hw H4.bel) hcw hk3.out)
        replace H4 := Aside0.mk H4
        replace hCk := Aside0.mk hCk
        go_wp2_with fail
        refine hcall.out.mono ?_
        rintro e W5 ⟨rfl, hb5⟩
        have H5 := H4.out.below hb5
        have hCl := Aside0.mk (Kd.C_below hCl.out hb5)
        have hCm := Aside0.mk (Kd.C_below hCm.out hb5)
        have hCk := Aside0.mk (Kd.C_below hCk.out hb5)
        clear hcall hb5 H4 a0 a1 a2 n0 n1 n2 hk2 hk3
        have b1 : (c != (0 : Int)) = true := by simp [hc]
        have b2 : (c == c) = true := by simp
        replace H5 := Aside0.mk H5
        go_wp2_with fail
        refine (hex.out _).mono ?_
        rintro e W9 ⟨rfl, hb9⟩
        have H9 := Aside0.mk (H5.out.below hb9)
        clear hb9
        go_wp2
        go_ret
        exact ⟨rfl, H9.out.bel⟩


  · rw [smV, if_neg hs] at hsm
    clear hs
    go_enter Try.func4, Try.ntmps4
    go_wp2_with fail
    refine hsm.out.mono ?_
    rintro e W1 ⟨rfl, hb1⟩
    have H1 := (H0.out.below hb1).push (.cells #[.string ⟨#[]⟩, .slice none 0 0, .slice none 0 0] 25)
    replace H1 := Aside0.mk H1
    clear hb1 hsm nd0 nd1 nd2 H0
    go_wp2_with fail
    refine (hex.out _).mono ?_
    rintro e W3 ⟨rfl, hb3⟩
    have H3 := Aside0.mk (H1.out.below hb3)
    clear hb3 H1 hex
    go_wp2
    go_ret
    exact ⟨rfl, H3.out.bel⟩

end Go.Proofs.Yteaimaafahpamaa.Hy
