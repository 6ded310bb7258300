/- By hand (sim_wext): a part of this seat's proofs. -/
import Derived.Test.YteaimaafahpamaaXSimLaw3
import Derived.Test.YteaimaafahpamaaH8
import Derived.Test.YteaimaafahpamaaH11
import Derived.Deep.LoopGhost
namespace Go.Proofs.Yteaimaafahpamaa.Hy
open Go.RowKit Go.Shelf Go.Proofs.YteaimaafahpamaaW.PrintWords Go.Proofs.YteaimaafahpamaaW.PrintLast Go.Proofs.YteaimaafahpamaaW.PrintMore
set_option linter.unusedVariables false
set_option linter.unusedSimpArgs false
attribute [local go_sem] Oper.semAt_some
/-! ### SimulateExtends, walked by hand -/
theorem calls_args2 {P : Program} {f : FuncId} {args args' : Array Value} {w : World} {Q : Ending → World → Prop} (h : args' = args) (hc : Calls P f args w Q) : Calls P f args' w Q := h ▸ hc
attribute [local go_sem] max2_int min2_int max_two min_two
set_option maxRecDepth 100000 in
set_option maxHeartbeats 8000000 in
theorem SimulateExtends_walk (nm : ByteArray) (A1 : Option Addr) (c1 : Nat) (ps : List S65) (A2 : Option Addr) (c2 : Nat) (ts : List S68) (Aw : Option Addr) (cw : Nat) (ws : List Int) (s : Nat) (steps : Int) (fewer : Int) (w : World)
    (hp : Kd.C k65 w A1 ps.length ps) (hc1 : ps.length ≤ c1) (hts : Kd.C k68 w A2 ts.length ts) (hc2 : ts.length ≤ c2) (hw : Kd.C (Kd.int .i64) w Aw ws.length ws) (hcw : ws.length ≤ cw) :
    Calls Try.prog 6 #[.agg #[.string nm, .slice A1 ps.length c1, .slice A2 ts.length c2], .agg #[.slice Aw ws.length cw, .int .u64 (s : Int), .int .i64 steps], .int .i64 fewer] w fun e w' => e = .returned (.bool true) ∧ Below w.heap.size w w' := by
  have hwl := Kd.C_max hw
  have hex := Aside0.mk (fun W => petrinetlaw53_exampleHolds.calls _ true W (example_ev.ex).choose_spec)
  have H0 := ((Held.refl w).push (.cells #[.string nm, .slice A1 ps.length c1, .slice A2 ts.length c2] 25)).push (.cells #[.slice Aw ws.length cw, .int .u64 (s : Int), .int .i64 steps] 29)
  simp only [World.size_alloc] at H0
  have hsm := Aside0.mk ((callsIn_wide (n := 0)).1 (small_in nm A1 c1 ps A2 c2 ts _ (Kd.C_below hp H0.bel) (Kd.C_below hts H0.bel)))
  have nd0 := H0.cell 1 0 rfl rfl
  have nd1 := H0.cell 1 1 rfl rfl
  have nd2 := H0.cell 1 2 rfl rfl
  replace H0 := Aside0.mk H0
  by_cases hs : small nm ps ts
  · rw [smV, if_pos hs] at hsm
    have hlk := Aside0.mk (small_lenOk hs)
    have hl12 : ps.length ≤ 26 ∧ ts.length ≤ 26 := ⟨hs.1, hs.2.1⟩
    clear hs
    obtain ⟨b, hb⟩ : ∃ b, petrinetlaw53_long.f ws (s : Int) steps = some b := by
      rw [petrinetlaw53_long.f]
      split
      · split <;> exact ⟨_, rfl⟩
      · exact ⟨_, rfl⟩
    replace hb := Aside0.mk hb
    go_enter Try.func6, Try.ntmps6
    go_wp2_with fail
    refine hsm.out.mono ?_
    rintro e W1 ⟨rfl, hb1⟩
    have H1 := (H0.out.below hb1).push (.cells #[.string nm, .slice A1 ps.length c1, .slice A2 ts.length c2] 25)
    have a0 := H1.cell 1 0 rfl rfl
    have a1 := H1.cell 1 1 rfl rfl
    have a2 := H1.cell 1 2 rfl rfl
    have n0 := H1.cell 0 0 rfl rfl
    have n1 := H1.cell 0 1 rfl rfl
    have n2 := H1.cell 0 2 rfl rfl
    have hlg := Aside0.mk (petrinetlaw53_long.calls Aw cw ws (s : Int) steps b _ (Kd.C_below hw H1.bel) hcw hb.out)
    replace H1 := Aside0.mk H1
    clear hb1 hsm nd0 nd1 nd2 H0
    go_wp2_with fail
    refine hlg.out.mono ?_
    rintro e W2 ⟨rfl, hb2⟩
    have H2 := H1.out.below hb2
    have a0 := H2.cell 1 0 rfl rfl
    have a1 := H2.cell 1 1 rfl rfl
    have a2 := H2.cell 1 2 rfl rfl
    have n0 := H2.cell 0 0 rfl rfl
    have n1 := H2.cell 0 1 rfl rfl
    have n2 := H2.cell 0 2 rfl rfl
    clear hb2 hlg H1
    cases b with
    | true =>
      replace H2 := Aside0.mk H2
      go_wp2_with fail
      refine (hex.out _).mono ?_
      rintro e W3 ⟨rfl, hb3⟩
      have H3 := Aside0.mk (H2.out.below hb3)
      clear hb3 H2 hex a0 a1 a2 n0 n1 n2
      go_wp2
      go_ret
      exact ⟨rfl, H3.out.bel⟩
    | false =>
      by_cases hf0 : fewer < 0
      · have d1 : decide (fewer < 0) = true := decide_eq_true hf0
        replace H2 := Aside0.mk H2
        go_wp2_with fail
        refine (hex.out _).mono ?_
        rintro e W9 ⟨rfl, hb9⟩
        have H9 := Aside0.mk (H2.out.below hb9)
        clear hb9
        go_wp2
        go_ret
        exact ⟨rfl, H9.out.bel⟩
      by_cases hf1 : fewer > steps
      · have d1 : decide (fewer < 0) = false := decide_eq_false hf0
        have d2 : decide (fewer > steps) = true := decide_eq_true hf1
        have d3 : decide (steps < fewer) = true := decide_eq_true hf1
        replace H2 := Aside0.mk H2
        go_wp2_with fail
        refine (hex.out _).mono ?_
        rintro e W9 ⟨rfl, hb9⟩
        have H9 := Aside0.mk (H2.out.below hb9)
        clear hb9
        go_wp2
        go_ret
        exact ⟨rfl, H9.out.bel⟩
      have d1 : decide (fewer < 0) = false := decide_eq_false hf0
      have d2 : decide (fewer > steps) = false := decide_eq_false hf1
      have d3 : decide (steps < fewer) = false := decide_eq_false hf1
      by_cases hok : simChk nm ps ts ws steps = 0 ∧ (runR' ps ts ws s steps).2.2 = 0
      · obtain ⟨hc0, he⟩ := hok
        have h0 := simChk_zero hc0
        have hT : SimTrace nm ps ts ws s steps = (m0L ps :: (runR' ps ts ws s steps).1.map (·.2), 0) := by rw [SimTrace, if_pos hc0, if_pos he]
        have hcf := simChk_fewer hc0 (show 0 ≤ fewer by omega) (show fewer ≤ steps by omega)
        obtain ⟨hw1, hw2⟩ := walk_take (ps := ps) (ts := ts) (ws := ws) fewer.toNat steps.toNat (m0L ps) s (by omega) he
        have hTf : SimTrace nm ps ts ws s fewer = (m0L ps :: ((runR' ps ts ws s steps).1.take fewer.toNat).map (·.2), 0) := by
          rw [SimTrace, if_pos hcf, if_pos (show (runR' ps ts ws s fewer).2.2 = 0 from hw2)]
          show (m0L ps :: (walkR ps ts ws fewer.toNat (m0L ps) s).1.map (·.2), 0) = _
          rw [hw1]; rfl
        have hmany := many1_ev hc0 s he (by omega)
        have hpos := walk_pos steps.toNat (m0L ps) s h0.way
        have hrl := run_len ps ts ws s steps h0.st.2
        have hst := h0.st
        have hm0 := h0.way.mark
        have h24 := h0.way.net.np
        have h25 := h0.way.net.nt
        obtain ⟨l, hl⟩ : ∃ l, (runR' ps ts ws s steps).1 = l := ⟨_, rfl⟩
        rw [hl] at hT hTf hmany hrl
        rw [show (walkR ps ts ws steps.toNat (m0L ps) s).1 = l from hl] at hpos
        obtain ⟨q1, q2, q3⟩ := fir_fold l (List.replicate ts.length 0) 0 (fun p hp => by rw [List.length_replicate]; exact ⟨(hpos p hp).1, (hpos p hp).2.1⟩) (fun x hx => by rw [(List.mem_replicate.1 hx).2]; omega) (by simp) (by omega) (by omega)
        rw [List.length_replicate] at q1
        obtain ⟨F, hF⟩ : ∃ F, l.foldl firS (List.replicate ts.length 0) = F := ⟨_, rfl⟩
        rw [hF] at q1 q2 q3 hmany
        obtain ⟨m0, hm0e⟩ : ∃ m, m0L ps = m := ⟨_, rfl⟩
        rw [hm0e] at hT hTf hmany hm0
        have hMl : ∀ x ∈ m0 :: l.map (·.2), x.length = m0.length := by
          intro x hx
          rcases List.mem_cons.1 hx with rfl | hx
          · rfl
          · obtain ⟨p, hp, rfl⟩ := List.mem_map.1 hx
            rw [(hpos p hp).2.2.2.len, hm0.len]
        obtain ⟨Mk, hMk⟩ : ∃ Mk, m0 :: l.map (·.2) = Mk := ⟨_, rfl⟩
        have hLk : Mk.length = l.length + 1 := by rw [← hMk]; simp
        have hMj : m0 :: (l.take fewer.toNat).map (·.2) = Mk.take (fewer.toNat + 1) := by rw [← hMk, List.take_succ_cons, List.map_take]
        have htop : topL m0 (l.map (·.2)) = topL m0 Mk := by
          rw [← hMk]; show _ = topL (List.zipWith mx m0 m0) (l.map (·.2)); rw [zip_self]
        have hhd : Mk.getD 0 [] = m0 := by rw [← hMk]; rfl
        rw [hMk] at hT hMl
        rw [hMj] at hTf
        rw [htop] at hmany
        have htl := topL_len Mk m0 hMl
        have hjl : (Mk.take (fewer.toNat + 1)).length ≤ Mk.length := by rw [List.length_take]; omega
        have hjl2 : ((Mk.take (fewer.toNat + 1)).length : Int) = if fewer + 1 < (Mk.length : Int) then fewer + 1 else (Mk.length : Int) := by rw [List.length_take]; split <;> omega
        have hjm : ∀ x ∈ Mk.take (fewer.toNat + 1), x.length ≤ 1000000 := fun x hx => by rw [hMl x (List.mem_of_mem_take hx), hm0.len]; omega
        have hm0l : m0.length ≤ 24 := by rw [hm0.len]; omega
        obtain ⟨Mj, hMje⟩ : ∃ Mj, Mk.take (fewer.toNat + 1) = Mj := ⟨_, rfl⟩
        have hMjt : Mk.take Mj.length = Mj := by rw [← hMje, List.length_take]; rcases Nat.le_total (fewer.toNat + 1) Mk.length with h | h <;> simp [h, List.take_of_length_le]
        rw [hMje] at hTf hjl hjl2 hjm
        obtain ⟨k1, hk1⟩ := (SimTrace_ev nm ps ts ws s steps (by omega)).ex
        obtain ⟨k2, hk2⟩ := (SimTrace_ev nm ps ts ws s fewer (by omega)).ex
        rw [hT] at hk1
        rw [hTf] at hk2
        obtain ⟨k3, hk3⟩ := (lists_ev Mj (by omega) hjm).ex
        obtain ⟨k4, hk4⟩ := hmany.ex
        obtain ⟨k5, hk5⟩ := (total_ev F (by omega) (fun x hx => by have := q2 x hx; omega)).ex
        rw [q3] at hk5
        obtain ⟨k6, hk6⟩ := (same_ev (topL m0 Mk) (by omega)).ex
        obtain ⟨tt, htt⟩ : ∃ t, topL m0 Mk = t := ⟨_, rfl⟩
        rw [htt] at hk4 hk6 htl
        have hcall := Aside0.mk (simulate_Trace.calls k1 nm A1 c1 ps A2 c2 ts Aw cw ws (s : Int) steps Mk 0 W2 (Kd.C_below hp H2.bel) hc1 (Kd.C_below hts H2.bel) hc2 (Kd.C_below hw H2.bel) hcw hk1)
        replace H2 := Aside0.mk H2
        replace hk2 := Aside0.mk hk2
        replace hk3 := Aside0.mk hk3
        replace hk4 := Aside0.mk hk4
        replace hk5 := Aside0.mk hk5
        replace hk6 := Aside0.mk hk6
        replace hMl := Aside0.mk hMl
        replace htl := Aside0.mk htl
        replace hhd := Aside0.mk hhd
        replace htt := Aside0.mk htt
        replace hMjt := Aside0.mk hMjt
        replace hLk := Aside0.mk hLk
        replace hjl2 := Aside0.mk hjl2
        have hb := Aside0.mk (show l.length ≤ 10000 ∧ Mk.length ≤ 10001 ∧ Mj.length ≤ Mk.length ∧ 0 ≤ fewer ∧ fewer ≤ 10000 by have := hLk.out; omega)
        clear hk1 hT hTf hmany hpos hc0 hcf hw1 hw2 he h0 hl hm0 q1 q2 q3 hF hMk hMj htop hjm hMje hm0e hrl hjl h24 h25
        go_wp2_with fail
        refine hcall.out.mono ?_
        rintro e W3 ⟨v2, rfl, hv2, hb3⟩
        have H3 := H2.out.below hb3
        obtain ⟨Ak, ck, rfl, hck, hCk⟩ := Kd.R_reads (Kd.S_R hv2)
        clear hcall hv2 hb3 H2 a0 a1 a2 n0 n1 n2
        have a0 := H3.cell 1 0 rfl rfl
        have a1 := H3.cell 1 1 rfl rfl
        have a2 := H3.cell 1 2 rfl rfl
        have n0 := H3.cell 0 0 rfl rfl
        have n1 := H3.cell 0 1 rfl rfl
        have n2 := H3.cell 0 2 rfl rfl
        have hcall := Aside0.mk (simulate_Trace.calls k2 nm A1 c1 ps A2 c2 ts Aw cw ws (s : Int) fewer Mj 0 W3 (Kd.C_below hp H3.bel) hc1 (Kd.C_below hts H3.bel) hc2 (Kd.C_below hw H3.bel) hcw hk2.out)
        replace H3 := Aside0.mk H3
        replace hCk := Aside0.mk hCk
        go_wp2_with fail
        refine hcall.out.mono ?_
        rintro e W4 ⟨v3, rfl, hv3, hb4⟩
        have H4 := H3.out.below hb4
        obtain ⟨Aj, cj, rfl, hcj, hCj⟩ := Kd.R_reads (Kd.S_R hv3)
        have hCk4 := Kd.C_below hCk.out hb4
        have hCt := Kd.C_take hCk4 (show Mj.length ≤ Mk.length from hb.out.2.2.1)
        rw [hMjt.out] at hCt
        have hlists := Aside0.mk (petrinetref04_Lists.calls k3 Aj cj Mj Ak ck Mj true W4 hCj hcj hCt (by have := hb.out; omega) hk3.out)
        replace hCk4 := Aside0.mk hCk4
        clear hcall hv3 hb4 H3 a0 a1 a2 n0 n1 n2 hCk hCj hCt hk2 hk3
        have a0 := H4.cell 1 0 rfl rfl
        have a1 := H4.cell 1 1 rfl rfl
        have a2 := H4.cell 1 2 rfl rfl
        have n0 := H4.cell 0 0 rfl rfl
        have n1 := H4.cell 0 1 rfl rfl
        have n2 := H4.cell 0 2 rfl rfl
        replace H4 := Aside0.mk H4
        have hje1 : fewer + 1 < (Mk.length : Int) → (Mj.length : Int) = fewer + 1 := fun h => by have := hjl2.out; rw [if_pos h] at this; exact this
        have hje2 : ¬ fewer + 1 < (Mk.length : Int) → (Mj.length : Int) = (Mk.length : Int) := fun h => by have := hjl2.out; rw [if_neg h] at this; exact this
        have hMjc : Mj.length ≤ ck := by have := hb.out; omega
        have hbf := hb.out
        go_wp2_with fail
        · refine calls_args2 (args := #[.slice Aj Mj.length cj, .slice Ak Mj.length ck]) (by have hN := hjl2.out; split at hN <;> first | (rw [show (fewer + 1).toNat = Mj.length by omega]) | (rw [show Mk.length = Mj.length by omega])) (hlists.out.mono ?_)
          clear hje1 hje2 hbf hMjc
          rintro e W5 ⟨rfl, hd5⟩
          have H5 := H4.out.below hd5.below
          have hCk5 := Aside0.mk (Kd.C_below hCk4.out hd5.below)
          have a0 := H5.cell 1 0 rfl rfl
          have a1 := H5.cell 1 1 rfl rfl
          have a2 := H5.cell 1 2 rfl rfl
          have n0 := H5.cell 0 0 rfl rfl
          have n1 := H5.cell 0 1 rfl rfl
          have n2 := H5.cell 0 2 rfl rfl
          have hcall := Aside0.mk (simulate_Many.calls k4 nm A1 c1 ps A2 c2 ts Aw cw ws (s : Int) steps 1 F _ tt 0 W5 (Kd.C_below hp H5.bel) hc1 (Kd.C_below hts H5.bel) hc2 (Kd.C_below hw H5.bel) hcw hk4.out)
          replace H5 := Aside0.mk H5
          clear hlists hd5 hCk4 H4 hk4
          go_wp2_with fail
          refine hcall.out.mono ?_
          rintro e W6 ⟨v4, v5, rfl, hv4, hv5, hb6⟩
          obtain ⟨AF, cF, rfl, hcF, hCF⟩ := Kd.R_reads hv4
          obtain ⟨AX, cX, rfl, hcX, hCX⟩ := Kd.R_reads hv5
          obtain ⟨dd, hdd⟩ : ∃ d : Int, (if (l.length : Int) < steps then (1 : Int) else 0) = d := ⟨_, rfl⟩
          rw [hdd]
          have hpu := below_alloc (Below.refl W6.heap.size W6) (.cells #[.slice AF F.length cF, .int .i64 dd, .slice AX tt.length cX] 55)
          have H7 := (H5.out.below hb6).push (.cells #[.slice AF F.length cF, .int .i64 dd, .slice AX tt.length cX] 55)
          have hCX7 := Aside0.mk (Kd.C_below hCX hpu)
          have hCk7 := Aside0.mk (Kd.C_below (Kd.C_below hCk5.out hb6) hpu)
          have htot := Aside0.mk (petrinetref04_Total.calls k5 AF cF F _ _ (Kd.C_below hCF hpu) hcF hk5.out)
          have y0 := H7.cell 0 0 rfl rfl
          have y1 := H7.cell 0 1 rfl rfl
          have y2 := H7.cell 0 2 rfl rfl
          have b2 := H7.cell 2 2 rfl rfl
          have hwr : wrap64 ((Mk.length : Int) - 1) = (l.length : Int) := by have := hb.out; have := hLk.out; rw [w_id (by omega) (by omega)]; omega
          have hll : (0 : Int) + (l.length : Int) = (l.length : Int) := by omega
          rw [hll] at htot
          replace H7 := Aside0.mk H7
          replace hdd := Aside0.mk hdd
          clear hcall hv4 hv5 hb6 hpu H5 a0 a1 a2 n0 n1 n2 hCF hCX hk5 hCk5 hll
          go_wp2_with fail
          refine htot.out.mono ?_
          rintro e W8 ⟨rfl, hd8⟩
          have H8 := H7.out.below hd8.below
          have hCX8 := Aside0.mk (Kd.C_below hCX7.out hd8.below)
          have hCk8 := Aside0.mk (Kd.C_below hCk7.out hd8.below)
          have y1 := H8.cell 0 1 rfl rfl
          have b2 := H8.cell 2 2 rfl rfl
          have hlen := hLk.out
          have hbb := hb.out
          replace H8 := Aside0.mk H8
          clear htot hd8 H7 hCX7 hCk7 y0 y2
          by_cases hls : (l.length : Int) < steps
          · have e4 : decide ((l.length : Int) < steps) = true := decide_eq_true hls
            have hd1 : dd = 1 := by rw [← hdd.out, if_pos hls]
            subst hd1
            have hk0 := ReadsRow.get_ hCk8.out ([] : List Int) (0 : Int) (by omega) (by omega)
            obtain ⟨ad, ce, hAd, _, hk, hcs⟩ := hk0
            subst hAd
            simp only [show (0 : Int).toNat = 0 from rfl, hhd.out] at hk hcs
            obtain ⟨A0, c0, hce, hc0, hK0⟩ := hk
            subst hce
            have gm : W8.cell? (ad.add 0) = some (.slice A0 m0.length c0) := by simpa [Kd.slice] using hcs 0 _ rfl
            have gm2 : W8.cell? ad = some (.slice A0 m0.length c0) := by simpa [Addr.add] using gm
            replace hK0 := Aside0.mk hK0
            clear hcs
            go_wp2
            go_loopg [15, 16] Mk.length (fun kx tv iv wr => ∃ (i : Nat) (T : List Int) (At : Option Addr) (ct : Nat), tv = .slice At T.length ct ∧ iv = .int .i64 i ∧ i ≤ Mk.length ∧ Mk.length - i ≤ kx ∧ T.length ≤ ct ∧ Aside0 (T.length = m0.length) ∧ Aside0 (topL T (Mk.drop i) = tt) ∧ Aside0 (Kd.C (Kd.int .i64) wr At T.length T) ∧ Aside0 (Below W8.heap.size W8 wr))
            case atStart => exact ⟨0, m0, A0, c0, rfl, rfl, Nat.zero_le _, by omega, hc0, ⟨rfl⟩, htt, hK0, ⟨Below.refl _ _⟩⟩
            case round =>
              clear gm gm2 hK0
              obtain ⟨i, T, At, ct, rfl, rfl, hi, hkx, hct, hTl, htp, hCT, hB⟩ := hrel
              by_cases hlt : i < Mk.length
              · obtain ⟨ad2, ce, hA2, _, hk, hcs⟩ := ReadsRow.get_ (Kd.C_below hCk8.out hB.out) ([] : List Int) (i : Int) (by omega) (by omega)
                injection hA2 with hA2
                subst hA2
                have hdr : Mk.drop i = Mk.getD i [] :: Mk.drop (i + 1) := by rw [List.getD_eq_getElem?_getD, List.getElem?_eq_getElem hlt]; exact List.drop_eq_getElem_cons hlt
                have hxl : (Mk.getD i []).length = m0.length := by rw [List.getD_eq_getElem?_getD, List.getElem?_eq_getElem hlt]; exact hMl.out _ (List.getElem_mem hlt)
                simp only [Int.toNat_natCast] at hk hcs
                obtain ⟨x, hx⟩ : ∃ x, Mk.getD i [] = x := ⟨_, rfl⟩
                rw [hx] at hdr hxl hk
                obtain ⟨Ax, cx, hce, hcx, hKx⟩ := hk
                subst hce
                have gm : wr.cell? (ad.add i) = some (.slice Ax x.length cx) := by simpa [Kd.slice] using hcs 0 _ rfl
                have hTx := hTl.out
                obtain ⟨k7, hk7⟩ := (max4_ev T x (by omega) (by omega)).ex
                have hcall := Aside0.mk (petrinetref04_Max.calls k7 At ct T Ax cx x _ wr hCT.out hct hKx hcx hk7)
                have hlt2 := Aside0.mk (show i + 1 ≤ Mk.length from hlt)
                have hzl : (List.zipWith mx T x).length = m0.length := by simp; omega
                clear hTx hxl
                have htp2 := Aside0.mk (show topL (List.zipWith mx T x) (Mk.drop (i + 1)) = tt by rw [← htp.out, hdr]; rfl)
                replace hzl := Aside0.mk hzl
                clear hcs hx hk7 hdr hKx
                go_wp2_with fail
                refine hcall.out.mono ?_
                rintro e w9 ⟨v9, rfl, hR9, hb9⟩
                obtain ⟨A9, c9, rfl, hc9, hC9⟩ := Kd.R_reads hR9
                obtain ⟨z, hz⟩ : ∃ z, List.zipWith mx T x = z := ⟨_, rfl⟩
                rw [hz] at hC9 hc9 htp2 hzl ⊢
                replace hC9 := Aside0.mk hC9
                have hB9 := Aside0.mk (hB.out.trans (hb9.mono hB.out.size))
                clear hcall hR9 hb9 hz
                go_wp2
                go_roundg (Mk.length - (i + 1))
                case measure => have := hlt2.out; omega
                case rel => exact ⟨i + 1, z, A9, c9, rfl, by go_num, hlt2.out, Nat.le_refl _, hc9, hzl, htp2, hC9, hB9⟩
              · obtain rfl : i = Mk.length := by omega
                have hTt : T = tt := by rw [← htp.out, List.drop_length]; rfl
                subst hTt
                have HB := H8.out.below hB.out
                have y2 := HB.cell 0 2 rfl rfl
                have hsame := Aside0.mk (petrinetref04_Same.calls k6 AX cX T At ct T true wr (Kd.C_below hCX8.out hB.out) hcX hCT.out hct hk6.out)
                replace HB := Aside0.mk HB
                clear htp hCT
                go_wp2_with fail
                refine hsame.out.mono ?_
                rintro e W10 ⟨rfl, hd10⟩
                have H10 := Aside0.mk (HB.out.below hd10.below)
                clear hsame hd10 HB y2
                go_wp2_with fail
                refine (hex.out _).mono ?_
                rintro e W11 ⟨rfl, hb11⟩
                have H11 := Aside0.mk (H10.out.below hb11)
                clear hb11
                go_wp2
                go_ret
                exact ⟨rfl, H11.out.bel⟩
          · have e4 : decide ((l.length : Int) < steps) = false := decide_eq_false hls
            have hd1 : dd = 0 := by rw [← hdd.out, if_neg hls]
            subst hd1
            have hk0 := ReadsRow.get_ hCk8.out ([] : List Int) (0 : Int) (by omega) (by omega)
            obtain ⟨ad, ce, hAd, _, hk, hcs⟩ := hk0
            subst hAd
            simp only [show (0 : Int).toNat = 0 from rfl, hhd.out] at hk hcs
            obtain ⟨A0, c0, hce, hc0, hK0⟩ := hk
            subst hce
            have gm : W8.cell? (ad.add 0) = some (.slice A0 m0.length c0) := by simpa [Kd.slice] using hcs 0 _ rfl
            have gm2 : W8.cell? ad = some (.slice A0 m0.length c0) := by simpa [Addr.add] using gm
            replace hK0 := Aside0.mk hK0
            clear hcs
            go_wp2
            go_loopg [15, 16] Mk.length (fun kx tv iv wr => ∃ (i : Nat) (T : List Int) (At : Option Addr) (ct : Nat), tv = .slice At T.length ct ∧ iv = .int .i64 i ∧ i ≤ Mk.length ∧ Mk.length - i ≤ kx ∧ T.length ≤ ct ∧ Aside0 (T.length = m0.length) ∧ Aside0 (topL T (Mk.drop i) = tt) ∧ Aside0 (Kd.C (Kd.int .i64) wr At T.length T) ∧ Aside0 (Below W8.heap.size W8 wr))
            case atStart => exact ⟨0, m0, A0, c0, rfl, rfl, Nat.zero_le _, by omega, hc0, ⟨rfl⟩, htt, hK0, ⟨Below.refl _ _⟩⟩
            case round =>
              clear gm gm2 hK0
              obtain ⟨i, T, At, ct, rfl, rfl, hi, hkx, hct, hTl, htp, hCT, hB⟩ := hrel
              by_cases hlt : i < Mk.length
              · obtain ⟨ad2, ce, hA2, _, hk, hcs⟩ := ReadsRow.get_ (Kd.C_below hCk8.out hB.out) ([] : List Int) (i : Int) (by omega) (by omega)
                injection hA2 with hA2
                subst hA2
                have hdr : Mk.drop i = Mk.getD i [] :: Mk.drop (i + 1) := by rw [List.getD_eq_getElem?_getD, List.getElem?_eq_getElem hlt]; exact List.drop_eq_getElem_cons hlt
                have hxl : (Mk.getD i []).length = m0.length := by rw [List.getD_eq_getElem?_getD, List.getElem?_eq_getElem hlt]; exact hMl.out _ (List.getElem_mem hlt)
                simp only [Int.toNat_natCast] at hk hcs
                obtain ⟨x, hx⟩ : ∃ x, Mk.getD i [] = x := ⟨_, rfl⟩
                rw [hx] at hdr hxl hk
                obtain ⟨Ax, cx, hce, hcx, hKx⟩ := hk
                subst hce
                have gm : wr.cell? (ad.add i) = some (.slice Ax x.length cx) := by simpa [Kd.slice] using hcs 0 _ rfl
                have hTx := hTl.out
                obtain ⟨k7, hk7⟩ := (max4_ev T x (by omega) (by omega)).ex
                have hcall := Aside0.mk (petrinetref04_Max.calls k7 At ct T Ax cx x _ wr hCT.out hct hKx hcx hk7)
                have hlt2 := Aside0.mk (show i + 1 ≤ Mk.length from hlt)
                have hzl : (List.zipWith mx T x).length = m0.length := by simp; omega
                clear hTx hxl
                have htp2 := Aside0.mk (show topL (List.zipWith mx T x) (Mk.drop (i + 1)) = tt by rw [← htp.out, hdr]; rfl)
                replace hzl := Aside0.mk hzl
                clear hcs hx hk7 hdr hKx
                go_wp2_with fail
                refine hcall.out.mono ?_
                rintro e w9 ⟨v9, rfl, hR9, hb9⟩
                obtain ⟨A9, c9, rfl, hc9, hC9⟩ := Kd.R_reads hR9
                obtain ⟨z, hz⟩ : ∃ z, List.zipWith mx T x = z := ⟨_, rfl⟩
                rw [hz] at hC9 hc9 htp2 hzl ⊢
                replace hC9 := Aside0.mk hC9
                have hB9 := Aside0.mk (hB.out.trans (hb9.mono hB.out.size))
                clear hcall hR9 hb9 hz
                go_wp2
                go_roundg (Mk.length - (i + 1))
                case measure => have := hlt2.out; omega
                case rel => exact ⟨i + 1, z, A9, c9, rfl, by go_num, hlt2.out, Nat.le_refl _, hc9, hzl, htp2, hC9, hB9⟩
              · obtain rfl : i = Mk.length := by omega
                have hTt : T = tt := by rw [← htp.out, List.drop_length]; rfl
                subst hTt
                have HB := H8.out.below hB.out
                have y2 := HB.cell 0 2 rfl rfl
                have hsame := Aside0.mk (petrinetref04_Same.calls k6 AX cX T At ct T true wr (Kd.C_below hCX8.out hB.out) hcX hCT.out hct hk6.out)
                replace HB := Aside0.mk HB
                clear htp hCT
                go_wp2_with fail
                refine hsame.out.mono ?_
                rintro e W10 ⟨rfl, hd10⟩
                have H10 := Aside0.mk (HB.out.below hd10.below)
                clear hsame hd10 HB y2
                go_wp2_with fail
                refine (hex.out _).mono ?_
                rintro e W11 ⟨rfl, hb11⟩
                have H11 := Aside0.mk (H10.out.below hb11)
                clear hb11
                go_wp2
                go_ret
                exact ⟨rfl, H11.out.bel⟩
        · refine calls_args2 (args := #[.slice Aj Mj.length cj, .slice Ak Mj.length ck]) (by have hN := hjl2.out; split at hN <;> first | (rw [show (fewer + 1).toNat = Mj.length by omega]) | (rw [show Mk.length = Mj.length by omega])) (hlists.out.mono ?_)
          clear hje1 hje2 hbf hMjc
          rintro e W5 ⟨rfl, hd5⟩
          have H5 := H4.out.below hd5.below
          have hCk5 := Aside0.mk (Kd.C_below hCk4.out hd5.below)
          have a0 := H5.cell 1 0 rfl rfl
          have a1 := H5.cell 1 1 rfl rfl
          have a2 := H5.cell 1 2 rfl rfl
          have n0 := H5.cell 0 0 rfl rfl
          have n1 := H5.cell 0 1 rfl rfl
          have n2 := H5.cell 0 2 rfl rfl
          have hcall := Aside0.mk (simulate_Many.calls k4 nm A1 c1 ps A2 c2 ts Aw cw ws (s : Int) steps 1 F _ tt 0 W5 (Kd.C_below hp H5.bel) hc1 (Kd.C_below hts H5.bel) hc2 (Kd.C_below hw H5.bel) hcw hk4.out)
          replace H5 := Aside0.mk H5
          clear hlists hd5 hCk4 H4 hk4
          go_wp2_with fail
          refine hcall.out.mono ?_
          rintro e W6 ⟨v4, v5, rfl, hv4, hv5, hb6⟩
          obtain ⟨AF, cF, rfl, hcF, hCF⟩ := Kd.R_reads hv4
          obtain ⟨AX, cX, rfl, hcX, hCX⟩ := Kd.R_reads hv5
          obtain ⟨dd, hdd⟩ : ∃ d : Int, (if (l.length : Int) < steps then (1 : Int) else 0) = d := ⟨_, rfl⟩
          rw [hdd]
          have hpu := below_alloc (Below.refl W6.heap.size W6) (.cells #[.slice AF F.length cF, .int .i64 dd, .slice AX tt.length cX] 55)
          have H7 := (H5.out.below hb6).push (.cells #[.slice AF F.length cF, .int .i64 dd, .slice AX tt.length cX] 55)
          have hCX7 := Aside0.mk (Kd.C_below hCX hpu)
          have hCk7 := Aside0.mk (Kd.C_below (Kd.C_below hCk5.out hb6) hpu)
          have htot := Aside0.mk (petrinetref04_Total.calls k5 AF cF F _ _ (Kd.C_below hCF hpu) hcF hk5.out)
          have y0 := H7.cell 0 0 rfl rfl
          have y1 := H7.cell 0 1 rfl rfl
          have y2 := H7.cell 0 2 rfl rfl
          have b2 := H7.cell 2 2 rfl rfl
          have hwr : wrap64 ((Mk.length : Int) - 1) = (l.length : Int) := by have := hb.out; have := hLk.out; rw [w_id (by omega) (by omega)]; omega
          have hll : (0 : Int) + (l.length : Int) = (l.length : Int) := by omega
          rw [hll] at htot
          replace H7 := Aside0.mk H7
          replace hdd := Aside0.mk hdd
          clear hcall hv4 hv5 hb6 hpu H5 a0 a1 a2 n0 n1 n2 hCF hCX hk5 hCk5 hll
          go_wp2_with fail
          refine htot.out.mono ?_
          rintro e W8 ⟨rfl, hd8⟩
          have H8 := H7.out.below hd8.below
          have hCX8 := Aside0.mk (Kd.C_below hCX7.out hd8.below)
          have hCk8 := Aside0.mk (Kd.C_below hCk7.out hd8.below)
          have y1 := H8.cell 0 1 rfl rfl
          have b2 := H8.cell 2 2 rfl rfl
          have hlen := hLk.out
          have hbb := hb.out
          replace H8 := Aside0.mk H8
          clear htot hd8 H7 hCX7 hCk7 y0 y2
          by_cases hls : (l.length : Int) < steps
          · have e4 : decide ((l.length : Int) < steps) = true := decide_eq_true hls
            have hd1 : dd = 1 := by rw [← hdd.out, if_pos hls]
            subst hd1
            have hk0 := ReadsRow.get_ hCk8.out ([] : List Int) (0 : Int) (by omega) (by omega)
            obtain ⟨ad, ce, hAd, _, hk, hcs⟩ := hk0
            subst hAd
            simp only [show (0 : Int).toNat = 0 from rfl, hhd.out] at hk hcs
            obtain ⟨A0, c0, hce, hc0, hK0⟩ := hk
            subst hce
            have gm : W8.cell? (ad.add 0) = some (.slice A0 m0.length c0) := by simpa [Kd.slice] using hcs 0 _ rfl
            have gm2 : W8.cell? ad = some (.slice A0 m0.length c0) := by simpa [Addr.add] using gm
            replace hK0 := Aside0.mk hK0
            clear hcs
            go_wp2
            go_loopg [15, 16] Mk.length (fun kx tv iv wr => ∃ (i : Nat) (T : List Int) (At : Option Addr) (ct : Nat), tv = .slice At T.length ct ∧ iv = .int .i64 i ∧ i ≤ Mk.length ∧ Mk.length - i ≤ kx ∧ T.length ≤ ct ∧ Aside0 (T.length = m0.length) ∧ Aside0 (topL T (Mk.drop i) = tt) ∧ Aside0 (Kd.C (Kd.int .i64) wr At T.length T) ∧ Aside0 (Below W8.heap.size W8 wr))
            case atStart => exact ⟨0, m0, A0, c0, rfl, rfl, Nat.zero_le _, by omega, hc0, ⟨rfl⟩, htt, hK0, ⟨Below.refl _ _⟩⟩
            case round =>
              clear gm gm2 hK0
              obtain ⟨i, T, At, ct, rfl, rfl, hi, hkx, hct, hTl, htp, hCT, hB⟩ := hrel
              by_cases hlt : i < Mk.length
              · obtain ⟨ad2, ce, hA2, _, hk, hcs⟩ := ReadsRow.get_ (Kd.C_below hCk8.out hB.out) ([] : List Int) (i : Int) (by omega) (by omega)
                injection hA2 with hA2
                subst hA2
                have hdr : Mk.drop i = Mk.getD i [] :: Mk.drop (i + 1) := by rw [List.getD_eq_getElem?_getD, List.getElem?_eq_getElem hlt]; exact List.drop_eq_getElem_cons hlt
                have hxl : (Mk.getD i []).length = m0.length := by rw [List.getD_eq_getElem?_getD, List.getElem?_eq_getElem hlt]; exact hMl.out _ (List.getElem_mem hlt)
                simp only [Int.toNat_natCast] at hk hcs
                obtain ⟨x, hx⟩ : ∃ x, Mk.getD i [] = x := ⟨_, rfl⟩
                rw [hx] at hdr hxl hk
                obtain ⟨Ax, cx, hce, hcx, hKx⟩ := hk
                subst hce
                have gm : wr.cell? (ad.add i) = some (.slice Ax x.length cx) := by simpa [Kd.slice] using hcs 0 _ rfl
                have hTx := hTl.out
                obtain ⟨k7, hk7⟩ := (max4_ev T x (by omega) (by omega)).ex
                have hcall := Aside0.mk (petrinetref04_Max.calls k7 At ct T Ax cx x _ wr hCT.out hct hKx hcx hk7)
                have hlt2 := Aside0.mk (show i + 1 ≤ Mk.length from hlt)
                have hzl : (List.zipWith mx T x).length = m0.length := by simp; omega
                clear hTx hxl
                have htp2 := Aside0.mk (show topL (List.zipWith mx T x) (Mk.drop (i + 1)) = tt by rw [← htp.out, hdr]; rfl)
                replace hzl := Aside0.mk hzl
                clear hcs hx hk7 hdr hKx
                go_wp2_with fail
                refine hcall.out.mono ?_
                rintro e w9 ⟨v9, rfl, hR9, hb9⟩
                obtain ⟨A9, c9, rfl, hc9, hC9⟩ := Kd.R_reads hR9
                obtain ⟨z, hz⟩ : ∃ z, List.zipWith mx T x = z := ⟨_, rfl⟩
                rw [hz] at hC9 hc9 htp2 hzl ⊢
                replace hC9 := Aside0.mk hC9
                have hB9 := Aside0.mk (hB.out.trans (hb9.mono hB.out.size))
                clear hcall hR9 hb9 hz
                go_wp2
                go_roundg (Mk.length - (i + 1))
                case measure => have := hlt2.out; omega
                case rel => exact ⟨i + 1, z, A9, c9, rfl, by go_num, hlt2.out, Nat.le_refl _, hc9, hzl, htp2, hC9, hB9⟩
              · obtain rfl : i = Mk.length := by omega
                have hTt : T = tt := by rw [← htp.out, List.drop_length]; rfl
                subst hTt
                have HB := H8.out.below hB.out
                have y2 := HB.cell 0 2 rfl rfl
                have hsame := Aside0.mk (petrinetref04_Same.calls k6 AX cX T At ct T true wr (Kd.C_below hCX8.out hB.out) hcX hCT.out hct hk6.out)
                replace HB := Aside0.mk HB
                clear htp hCT
                go_wp2_with fail
                refine hsame.out.mono ?_
                rintro e W10 ⟨rfl, hd10⟩
                have H10 := Aside0.mk (HB.out.below hd10.below)
                clear hsame hd10 HB y2
                go_wp2_with fail
                refine (hex.out _).mono ?_
                rintro e W11 ⟨rfl, hb11⟩
                have H11 := Aside0.mk (H10.out.below hb11)
                clear hb11
                go_wp2
                go_ret
                exact ⟨rfl, H11.out.bel⟩
          · have e4 : decide ((l.length : Int) < steps) = false := decide_eq_false hls
            have hd1 : dd = 0 := by rw [← hdd.out, if_neg hls]
            subst hd1
            have hk0 := ReadsRow.get_ hCk8.out ([] : List Int) (0 : Int) (by omega) (by omega)
            obtain ⟨ad, ce, hAd, _, hk, hcs⟩ := hk0
            subst hAd
            simp only [show (0 : Int).toNat = 0 from rfl, hhd.out] at hk hcs
            obtain ⟨A0, c0, hce, hc0, hK0⟩ := hk
            subst hce
            have gm : W8.cell? (ad.add 0) = some (.slice A0 m0.length c0) := by simpa [Kd.slice] using hcs 0 _ rfl
            have gm2 : W8.cell? ad = some (.slice A0 m0.length c0) := by simpa [Addr.add] using gm
            replace hK0 := Aside0.mk hK0
            clear hcs
            go_wp2
            go_loopg [15, 16] Mk.length (fun kx tv iv wr => ∃ (i : Nat) (T : List Int) (At : Option Addr) (ct : Nat), tv = .slice At T.length ct ∧ iv = .int .i64 i ∧ i ≤ Mk.length ∧ Mk.length - i ≤ kx ∧ T.length ≤ ct ∧ Aside0 (T.length = m0.length) ∧ Aside0 (topL T (Mk.drop i) = tt) ∧ Aside0 (Kd.C (Kd.int .i64) wr At T.length T) ∧ Aside0 (Below W8.heap.size W8 wr))
            case atStart => exact ⟨0, m0, A0, c0, rfl, rfl, Nat.zero_le _, by omega, hc0, ⟨rfl⟩, htt, hK0, ⟨Below.refl _ _⟩⟩
            case round =>
              clear gm gm2 hK0
              obtain ⟨i, T, At, ct, rfl, rfl, hi, hkx, hct, hTl, htp, hCT, hB⟩ := hrel
              by_cases hlt : i < Mk.length
              · obtain ⟨ad2, ce, hA2, _, hk, hcs⟩ := ReadsRow.get_ (Kd.C_below hCk8.out hB.out) ([] : List Int) (i : Int) (by omega) (by omega)
                injection hA2 with hA2
                subst hA2
                have hdr : Mk.drop i = Mk.getD i [] :: Mk.drop (i + 1) := by rw [List.getD_eq_getElem?_getD, List.getElem?_eq_getElem hlt]; exact List.drop_eq_getElem_cons hlt
                have hxl : (Mk.getD i []).length = m0.length := by rw [List.getD_eq_getElem?_getD, List.getElem?_eq_getElem hlt]; exact hMl.out _ (List.getElem_mem hlt)
                simp only [Int.toNat_natCast] at hk hcs
                obtain ⟨x, hx⟩ : ∃ x, Mk.getD i [] = x := ⟨_, rfl⟩
                rw [hx] at hdr hxl hk
                obtain ⟨Ax, cx, hce, hcx, hKx⟩ := hk
                subst hce
                have gm : wr.cell? (ad.add i) = some (.slice Ax x.length cx) := by simpa [Kd.slice] using hcs 0 _ rfl
                have hTx := hTl.out
                obtain ⟨k7, hk7⟩ := (max4_ev T x (by omega) (by omega)).ex
                have hcall := Aside0.mk (petrinetref04_Max.calls k7 At ct T Ax cx x _ wr hCT.out hct hKx hcx hk7)
                have hlt2 := Aside0.mk (show i + 1 ≤ Mk.length from hlt)
                have hzl : (List.zipWith mx T x).length = m0.length := by simp; omega
                clear hTx hxl
                have htp2 := Aside0.mk (show topL (List.zipWith mx T x) (Mk.drop (i + 1)) = tt by rw [← htp.out, hdr]; rfl)
                replace hzl := Aside0.mk hzl
                clear hcs hx hk7 hdr hKx
                go_wp2_with fail
                refine hcall.out.mono ?_
                rintro e w9 ⟨v9, rfl, hR9, hb9⟩
                obtain ⟨A9, c9, rfl, hc9, hC9⟩ := Kd.R_reads hR9
                obtain ⟨z, hz⟩ : ∃ z, List.zipWith mx T x = z := ⟨_, rfl⟩
                rw [hz] at hC9 hc9 htp2 hzl ⊢
                replace hC9 := Aside0.mk hC9
                have hB9 := Aside0.mk (hB.out.trans (hb9.mono hB.out.size))
                clear hcall hR9 hb9 hz
                go_wp2
                go_roundg (Mk.length - (i + 1))
                case measure => have := hlt2.out; omega
                case rel => exact ⟨i + 1, z, A9, c9, rfl, by go_num, hlt2.out, Nat.le_refl _, hc9, hzl, htp2, hC9, hB9⟩
              · obtain rfl : i = Mk.length := by omega
                have hTt : T = tt := by rw [← htp.out, List.drop_length]; rfl
                subst hTt
                have HB := H8.out.below hB.out
                have y2 := HB.cell 0 2 rfl rfl
                have hsame := Aside0.mk (petrinetref04_Same.calls k6 AX cX T At ct T true wr (Kd.C_below hCX8.out hB.out) hcX hCT.out hct hk6.out)
                replace HB := Aside0.mk HB
                clear htp hCT
                go_wp2_with fail
                refine hsame.out.mono ?_
                rintro e W10 ⟨rfl, hd10⟩
                have H10 := Aside0.mk (HB.out.below hd10.below)
                clear hsame hd10 HB y2
                go_wp2_with fail
                refine (hex.out _).mono ?_
                rintro e W11 ⟨rfl, hb11⟩
                have H11 := Aside0.mk (H10.out.below hb11)
                clear hb11
                go_wp2
                go_ret
                exact ⟨rfl, H11.out.bel⟩
      · obtain ⟨e0, he0, hT⟩ : ∃ e : Int, e ≠ 0 ∧ SimTrace nm ps ts ws s steps = ([], e) := by
          by_cases hc0 : simChk nm ps ts ws steps = 0
          · have he : ¬ (runR' ps ts ws s steps).2.2 = 0 := fun h => hok ⟨hc0, h⟩
            exact ⟨_, he, by rw [SimTrace, if_pos hc0, if_neg he]⟩
          · exact ⟨_, hc0, by rw [SimTrace, if_neg hc0]⟩
        obtain ⟨k1, hk1⟩ := (SimTrace_ev nm ps ts ws s steps (by omega)).ex
        rw [hT] at hk1
        have hcall := Aside0.mk (simulate_Trace.calls k1 nm A1 c1 ps A2 c2 ts Aw cw ws (s : Int) steps [] e0 W2 (Kd.C_below hp H2.bel) hc1 (Kd.C_below hts H2.bel) hc2 (Kd.C_below hw H2.bel) hcw hk1)
        have b1 : (e0 != (0 : Int)) = true := by simp [he0]
        replace H2 := Aside0.mk H2
        clear hk1 hT he0 hok
        go_wp2_with fail
        refine hcall.out.mono ?_
        rintro e W3 ⟨v2, rfl, hv2, hb3⟩
        obtain ⟨Ak, ck, rfl, hck, _⟩ := Kd.R_reads (Kd.S_R hv2)
        clear hv2
        have H3 := Aside0.mk (H2.out.below hb3)
        clear hcall hb3 H2 a0 a1 a2 n0 n1 n2
        go_wp2_with fail
        refine (hex.out _).mono ?_
        rintro e W9 ⟨rfl, hb9⟩
        have H9 := Aside0.mk (H3.out.below hb9)
        clear hb9
        go_wp2
        go_ret
        exact ⟨rfl, H9.out.bel⟩

  · rw [smV, if_neg hs] at hsm
    clear hs
    go_enter Try.func6, Try.ntmps6
    go_wp2_with fail
    refine hsm.out.mono ?_
    rintro e W1 ⟨rfl, hb1⟩
    have H1 := (H0.out.below hb1).push (.cells #[.string ⟨#[]⟩, .slice none 0 0, .slice none 0 0] 25)
    replace H1 := Aside0.mk H1
    clear hb1 hsm nd0 nd1 nd2 H0
    go_wp2_with fail
    refine (hex.out _).mono ?_
    rintro e W3 ⟨rfl, hb3⟩
    have H3 := Aside0.mk (H1.out.below hb3)
    clear hb3 H1 hex
    go_wp2
    go_ret
    exact ⟨rfl, H3.out.bel⟩

end Go.Proofs.Yteaimaafahpamaa.Hy
