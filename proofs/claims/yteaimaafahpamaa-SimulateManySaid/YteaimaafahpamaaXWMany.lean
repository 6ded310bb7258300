/- By hand (sim_wmany): a part of this seat's proofs. -/
import Derived.Test.YteaimaafahpamaaXRefManyW
import Derived.Test.YteaimaafahpamaaH8
import Derived.Test.YteaimaafahpamaaH11
namespace Go.Proofs.Yteaimaafahpamaa.Hy
open Go.RowKit Go.Shelf Go.Proofs.YteaimaafahpamaaW.PrintWords Go.Proofs.YteaimaafahpamaaW.PrintLast Go.Proofs.YteaimaafahpamaaW.PrintMore
set_option linter.unusedVariables false
set_option linter.unusedSimpArgs false
attribute [local go_sem] Oper.semAt_some
/-! ### SimulateMany, walked by hand -/
set_option maxRecDepth 100000 in
set_option maxHeartbeats 8000000 in
theorem SimulateMany_walk (nm : ByteArray) (A1 : Option Addr) (c1 : Nat) (ps : List S65) (A2 : Option Addr) (c2 : Nat) (ts : List S68) (Aw : Option Addr) (cw : Nat) (ws : List Int) (s : Nat) (steps : Int) (runs : Int) (w : World)
    (hp : Kd.C k65 w A1 ps.length ps) (hc1 : ps.length ≤ c1) (hts : Kd.C k68 w A2 ts.length ts) (hc2 : ts.length ≤ c2) (hw : Kd.C (Kd.int .i64) w Aw ws.length ws) (hcw : ws.length ≤ cw) :
    Calls Try.prog 5 #[.agg #[.string nm, .slice A1 ps.length c1, .slice A2 ts.length c2], .agg #[.slice Aw ws.length cw, .int .u64 (s : Int), .int .i64 steps], .int .i64 runs] w fun e w' => e = .returned (.bool true) ∧ Below w.heap.size w w' := by
  have hwl := Kd.C_max hw
  have hex := Aside0.mk (fun W => petrinetlaw53_exampleHolds.calls _ true W (example_ev.ex).choose_spec)
  have H0 := ((Held.refl w).push (.cells #[.string nm, .slice A1 ps.length c1, .slice A2 ts.length c2] 25)).push (.cells #[.slice Aw ws.length cw, .int .u64 (s : Int), .int .i64 steps] 29)
  simp only [World.size_alloc] at H0
  have hsm := Aside0.mk ((callsIn_wide (n := 0)).1 (small_in nm A1 c1 ps A2 c2 ts _ (Kd.C_below hp H0.bel) (Kd.C_below hts H0.bel)))
  have nd0 := H0.cell 1 0 rfl rfl
  have nd1 := H0.cell 1 1 rfl rfl
  have nd2 := H0.cell 1 2 rfl rfl
  replace H0 := Aside0.mk H0
  by_cases hs : small nm ps ts
  · rw [smV, if_pos hs] at hsm
    have hlk := Aside0.mk (small_lenOk hs)
    have hl12 : ps.length ≤ 26 ∧ ts.length ≤ 26 := ⟨hs.1, hs.2.1⟩
    clear hs
    obtain ⟨b, hb⟩ : ∃ b, petrinetlaw53_long.f ws (s : Int) steps = some b := by
      rw [petrinetlaw53_long.f]
      split
      · split <;> exact ⟨_, rfl⟩
      · exact ⟨_, rfl⟩
    replace hb := Aside0.mk hb
    go_enter Try.func5, Try.ntmps5
    go_wp2_with fail
    refine hsm.out.mono ?_
    rintro e W1 ⟨rfl, hb1⟩
    have H1 := (H0.out.below hb1).push (.cells #[.string nm, .slice A1 ps.length c1, .slice A2 ts.length c2] 25)
    have a0 := H1.cell 1 0 rfl rfl
    have a1 := H1.cell 1 1 rfl rfl
    have a2 := H1.cell 1 2 rfl rfl
    have n0 := H1.cell 0 0 rfl rfl
    have n1 := H1.cell 0 1 rfl rfl
    have n2 := H1.cell 0 2 rfl rfl
    have hlg := Aside0.mk (petrinetlaw53_long.calls Aw cw ws (s : Int) steps b _ (Kd.C_below hw H1.bel) hcw hb.out)
    replace H1 := Aside0.mk H1
    clear hb1 hsm nd0 nd1 nd2 H0
    go_wp2_with fail
    refine hlg.out.mono ?_
    rintro e W2 ⟨rfl, hb2⟩
    have H2 := H1.out.below hb2
    have a0 := H2.cell 1 0 rfl rfl
    have a1 := H2.cell 1 1 rfl rfl
    have a2 := H2.cell 1 2 rfl rfl
    have n0 := H2.cell 0 0 rfl rfl
    have n1 := H2.cell 0 1 rfl rfl
    have n2 := H2.cell 0 2 rfl rfl
    clear hb2 hlg H1
    cases b with
    | true =>
      replace H2 := Aside0.mk H2
      go_wp2_with fail
      refine (hex.out _).mono ?_
      rintro e W3 ⟨rfl, hb3⟩
      have H3 := Aside0.mk (H2.out.below hb3)
      clear hb3 H2 hex a0 a1 a2 n0 n1 n2
      go_wp2
      go_ret
      exact ⟨rfl, H3.out.bel⟩
    | false =>
      by_cases hrg : runs > 6 ∧ runs ≤ 100
      · have d1 : decide (runs > 6) = true := decide_eq_true hrg.1
        have d2 : decide (6 < runs) = true := decide_eq_true hrg.1
        have d3 : decide (runs ≤ 100) = true := decide_eq_true hrg.2
        replace H2 := Aside0.mk H2
        go_wp2_with fail
        refine (hex.out _).mono ?_
        rintro e W9 ⟨rfl, hb9⟩
        have H9 := Aside0.mk (H2.out.below hb9)
        clear hb9
        go_wp2
        go_ret
        exact ⟨rfl, H9.out.bel⟩
      have hguard : runs > 6 → ¬ runs ≤ 100 := fun h h2 => hrg ⟨h, h2⟩
      obtain ⟨k1, hk1⟩ := (SimMany_ev nm ps ts ws s steps runs (by omega)).ex
      obtain ⟨k2, hk2⟩ := (RefMany_ev nm ps ts ws s steps runs (by omega) (by omega) (by omega) hlk.out).ex
      obtain ⟨⟨F, D, M, E⟩, hS⟩ : ∃ x, SimMany nm ps ts ws s steps runs = x := ⟨_, rfl⟩
      rw [hS] at hk1 hk2
      have hcall := Aside0.mk (simulate_Many.calls k1 nm A1 c1 ps A2 c2 ts Aw cw ws (s : Int) steps runs F D M E W2 (Kd.C_below hp H2.bel) hc1 (Kd.C_below hts H2.bel) hc2 (Kd.C_below hw H2.bel) hcw hk1)
      replace H2 := Aside0.mk H2
      replace hk2 := Aside0.mk hk2
      clear hk1 hS hrg
      by_cases h6 : runs > 6
      · have d1 : decide (runs > 6) = true := decide_eq_true h6
        have d2 : decide (6 < runs) = true := decide_eq_true h6
        have d3 : decide (runs ≤ 100) = false := decide_eq_false (hguard h6)
        clear hguard
        go_wp2_with fail
        refine hcall.out.mono ?_
        rintro e W3 ⟨v0, v1, rfl, hv0, hv1, hb3⟩
        obtain ⟨AF, cF, rfl, hcF, hCF⟩ := Kd.R_reads hv0
        obtain ⟨AM, cM, rfl, hcM, hCM⟩ := Kd.R_reads hv1
        have hFm := Kd.C_max hCF
        have hMm := Kd.C_max hCM
        have H4 := (H2.out.below hb3).push (.cells #[.slice AF F.length cF, .int .i64 D, .slice AM M.length cM] 55)
        have hpu := below_alloc (Below.refl W3.heap.size W3) (.cells #[.slice AF F.length cF, .int .i64 D, .slice AM M.length cM] 55)
        have hCF := Aside0.mk (Kd.C_below hCF hpu)
        have hCM := Aside0.mk (Kd.C_below hCM hpu)
        have a0 := H4.cell 2 0 rfl rfl
        have a1 := H4.cell 2 1 rfl rfl
        have a2 := H4.cell 2 2 rfl rfl
        have n0 := H4.cell 1 0 rfl rfl
        have n1 := H4.cell 1 1 rfl rfl
        have n2 := H4.cell 1 2 rfl rfl
        have hcall2 := Aside0.mk (petrinetref53_Many.calls k2 nm A1 c1 ps A2 c2 ts Aw cw ws (s : Int) steps runs F D M E _ (Kd.C_below hp H4.bel) hc1 (Kd.C_below hts H4.bel) hc2 (Kd.C_below hw H4.bel) hcw hk2.out)
        replace H4 := Aside0.mk H4
        clear hcall hv0 hv1 hb3 hpu H2 d1 d2
        go_wp2_with fail
        refine hcall2.out.mono ?_
        rintro e W5 ⟨v2, v3, rfl, hv2, hv3, hb5⟩
        obtain ⟨BF, bF, rfl, hbF, hDF⟩ := Kd.R_reads hv2
        obtain ⟨BM, bM, rfl, hbM, hDM⟩ := Kd.R_reads hv3
        have H6 := (H4.out.below hb5).push (.cells #[.slice BF F.length bF, .int .i64 D, .slice BM M.length bM] 58)
        have hpu := below_alloc (Below.refl W5.heap.size W5) (.cells #[.slice BF F.length bF, .int .i64 D, .slice BM M.length bM] 58)
        obtain ⟨k3, hk3⟩ := (same_ev F (by omega)).ex
        obtain ⟨k4, hk4⟩ := (same_ev M (by omega)).ex
        have hs1 := Aside0.mk (petrinetref04_Same.calls k3 AF cF F BF bF F true _ (Kd.C_below (Kd.C_below hCF.out hb5) hpu) hcF (Kd.C_below hDF hpu) hbF hk3)
        have hCM6 := Aside0.mk (Kd.C_below (Kd.C_below hCM.out hb5) hpu)
        have hDM6 := Aside0.mk (Kd.C_below hDM hpu)
        have x0 := H6.cell 0 0 rfl rfl
        have y0 := H6.cell 1 0 rfl rfl
        replace H6 := Aside0.mk H6
        clear hcall2 hv2 hv3 hb5 hpu H4 a0 a1 a2 n0 n1 n2 hk3 hDF
        go_wp2_with fail
        refine hs1.out.mono ?_
        rintro e W7 ⟨rfl, hd7⟩
        have H7 := H6.out.below hd7.below
        have hs2 := Aside0.mk (petrinetref04_Same.calls k4 AM cM M BM bM M true W7 (Kd.C_below hCM6.out hd7.below) hcM (Kd.C_below hDM6.out hd7.below) hbM hk4)
        have x1 := H7.cell 0 1 rfl rfl
        have x2 := H7.cell 0 2 rfl rfl
        have y1 := H7.cell 1 1 rfl rfl
        have y2 := H7.cell 1 2 rfl rfl
        replace H7 := Aside0.mk H7
        clear hs1 hd7 H6 x0 y0 hk4
        go_wp2_with fail
        refine hs2.out.mono ?_
        rintro e W8 ⟨rfl, hd8⟩
        have H8 := Aside0.mk (H7.out.below hd8.below)
        clear hs2 hd8 H7 x1 x2 y1 y2
        go_wp2_with fail
        refine (hex.out _).mono ?_
        rintro e W9 ⟨rfl, hb9⟩
        have H9 := Aside0.mk (H8.out.below hb9)
        clear hb9
        go_wp2
        go_ret
        exact ⟨rfl, H9.out.bel⟩
      · have d1 : decide (runs > 6) = false := decide_eq_false h6
        have d2 : decide (6 < runs) = false := decide_eq_false h6
        clear hguard
        go_wp2_with fail
        refine hcall.out.mono ?_
        rintro e W3 ⟨v0, v1, rfl, hv0, hv1, hb3⟩
        obtain ⟨AF, cF, rfl, hcF, hCF⟩ := Kd.R_reads hv0
        obtain ⟨AM, cM, rfl, hcM, hCM⟩ := Kd.R_reads hv1
        have hFm := Kd.C_max hCF
        have hMm := Kd.C_max hCM
        have H4 := (H2.out.below hb3).push (.cells #[.slice AF F.length cF, .int .i64 D, .slice AM M.length cM] 55)
        have hpu := below_alloc (Below.refl W3.heap.size W3) (.cells #[.slice AF F.length cF, .int .i64 D, .slice AM M.length cM] 55)
        have hCF := Aside0.mk (Kd.C_below hCF hpu)
        have hCM := Aside0.mk (Kd.C_below hCM hpu)
        have a0 := H4.cell 2 0 rfl rfl
        have a1 := H4.cell 2 1 rfl rfl
        have a2 := H4.cell 2 2 rfl rfl
        have n0 := H4.cell 1 0 rfl rfl
        have n1 := H4.cell 1 1 rfl rfl
        have n2 := H4.cell 1 2 rfl rfl
        have hcall2 := Aside0.mk (petrinetref53_Many.calls k2 nm A1 c1 ps A2 c2 ts Aw cw ws (s : Int) steps runs F D M E _ (Kd.C_below hp H4.bel) hc1 (Kd.C_below hts H4.bel) hc2 (Kd.C_below hw H4.bel) hcw hk2.out)
        replace H4 := Aside0.mk H4
        clear hcall hv0 hv1 hb3 hpu H2 d1 d2
        go_wp2_with fail
        refine hcall2.out.mono ?_
        rintro e W5 ⟨v2, v3, rfl, hv2, hv3, hb5⟩
        obtain ⟨BF, bF, rfl, hbF, hDF⟩ := Kd.R_reads hv2
        obtain ⟨BM, bM, rfl, hbM, hDM⟩ := Kd.R_reads hv3
        have H6 := (H4.out.below hb5).push (.cells #[.slice BF F.length bF, .int .i64 D, .slice BM M.length bM] 58)
        have hpu := below_alloc (Below.refl W5.heap.size W5) (.cells #[.slice BF F.length bF, .int .i64 D, .slice BM M.length bM] 58)
        obtain ⟨k3, hk3⟩ := (same_ev F (by omega)).ex
        obtain ⟨k4, hk4⟩ := (same_ev M (by omega)).ex
        have hs1 := Aside0.mk (petrinetref04_Same.calls k3 AF cF F BF bF F true _ (Kd.C_below (Kd.C_below hCF.out hb5) hpu) hcF (Kd.C_below hDF hpu) hbF hk3)
        have hCM6 := Aside0.mk (Kd.C_below (Kd.C_below hCM.out hb5) hpu)
        have hDM6 := Aside0.mk (Kd.C_below hDM hpu)
        have x0 := H6.cell 0 0 rfl rfl
        have y0 := H6.cell 1 0 rfl rfl
        replace H6 := Aside0.mk H6
        clear hcall2 hv2 hv3 hb5 hpu H4 a0 a1 a2 n0 n1 n2 hk3 hDF
        go_wp2_with fail
        refine hs1.out.mono ?_
        rintro e W7 ⟨rfl, hd7⟩
        have H7 := H6.out.below hd7.below
        have hs2 := Aside0.mk (petrinetref04_Same.calls k4 AM cM M BM bM M true W7 (Kd.C_below hCM6.out hd7.below) hcM (Kd.C_below hDM6.out hd7.below) hbM hk4)
        have x1 := H7.cell 0 1 rfl rfl
        have x2 := H7.cell 0 2 rfl rfl
        have y1 := H7.cell 1 1 rfl rfl
        have y2 := H7.cell 1 2 rfl rfl
        replace H7 := Aside0.mk H7
        clear hs1 hd7 H6 x0 y0 hk4
        go_wp2_with fail
        refine hs2.out.mono ?_
        rintro e W8 ⟨rfl, hd8⟩
        have H8 := Aside0.mk (H7.out.below hd8.below)
        clear hs2 hd8 H7 x1 x2 y1 y2
        go_wp2_with fail
        refine (hex.out _).mono ?_
        rintro e W9 ⟨rfl, hb9⟩
        have H9 := Aside0.mk (H8.out.below hb9)
        clear hb9
        go_wp2
        go_ret
        exact ⟨rfl, H9.out.bel⟩

  · rw [smV, if_neg hs] at hsm
    clear hs
    go_enter Try.func5, Try.ntmps5
    go_wp2_with fail
    refine hsm.out.mono ?_
    rintro e W1 ⟨rfl, hb1⟩
    have H1 := (H0.out.below hb1).push (.cells #[.string ⟨#[]⟩, .slice none 0 0, .slice none 0 0] 25)
    replace H1 := Aside0.mk H1
    clear hb1 hsm nd0 nd1 nd2 H0
    go_wp2_with fail
    refine (hex.out _).mono ?_
    rintro e W3 ⟨rfl, hb3⟩
    have H3 := Aside0.mk (H1.out.below hb3)
    clear hb3 H1 hex
    go_wp2
    go_ret
    exact ⟨rfl, H3.out.bel⟩

end Go.Proofs.Yteaimaafahpamaa.Hy
