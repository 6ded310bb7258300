/- By hand (sim_wfires): a part of this seat's proofs. -/
import Derived.Test.YteaimaafahpamaaXSimLaw2
import Derived.Test.YteaimaafahpamaaH23
import Derived.Test.YteaimaafahpamaaH8
import Derived.Test.YteaimaafahpamaaH11
import Derived.Deep.RegionHeld3
import Derived.Deep.LoopGhost
namespace Go.Proofs.Yteaimaafahpamaa.Hy
open Go.RowKit Go.Shelf Go.Proofs.YteaimaafahpamaaW.PrintWords Go.Proofs.YteaimaafahpamaaW.PrintLast Go.Proofs.YteaimaafahpamaaW.PrintMore
set_option linter.unusedVariables false
set_option linter.unusedSimpArgs false
attribute [local go_sem] Oper.semAt_some
/-! ### SimulateFires, walked by hand -/
theorem kept_words : True := by
  -- blk_new blk_alloc blk_below blk_cell blk_frozen blk_far blk_set blk_drew blk_drewN blk_grown blk_lt pw_cell_below cell_kept own_setCell own_ne own_other own_type_ne own_slice own_move own_down own_weaken pw_own_below pw_below_drewN below_alloc below_drew Kd.C_take Kd.C_drop Kd.C_alloc Kd.C_drew Kd.C_drewN Kd.C_below Kd.C_max Kd.R_reads Kd.R_kept Kd.R_below Kd.R_mono Kd.R_bound Kd.R_lower Kd.R_reok Kd.R_far Kd.R_grown2 Kd.S_R Kd.S_lower Kd.S_mono Kd.S_nil cell_of_one Kd.C_kept_own max2_int min2_int max_two min_two max_three min_three
  trivial
theorem R_farT2 {W : World} {B : Nat} {u : Value} {x : List Int} (hu : (Kd.int .i64).R 3 W B (fun _ => True) u x) {g t : Nat} {cs : Array Value} (hg : W.heap[g]? = some (.cells cs t (0, 0))) (h1 : t ≠ 3) (j : Nat) (z : Value) : (Kd.int .i64).R 3 (W.setCell ⟨g, j, none⟩ z) B (fun _ => True) u x := by
  refine Kd.R_mono (Kd.R_far (Kd.R_mono (Kd.R_bound hu) (ok' := fun k => k ≠ g) (fun k hk e => ?_)) (p := ⟨g, j, none⟩) (fun k hk => hk) z) (fun _ _ => trivial)
  obtain ⟨_, _, _, q, hq, cells, hc⟩ := hk
  subst e
  rw [hg] at hc
  injection hc with hc
  injection hc with _ hc
  simp [Kd.int, Kd.scalar] at hq
  exact h1 (hc.trans hq)
abbrev SF (w W3 : World) (g : Nat) (v0 v1 v2 : Value) (L : List (Nat × Obj)) (W : World) : Prop :=
  W.cell? ⟨g, 0, none⟩ = some v0 ∧ W.cell? ⟨g, 1, none⟩ = some v1 ∧ W.cell? ⟨g, 2, none⟩ = some v2 ∧ Held w L W ∧ Below W3.heap.size W3 W
namespace SF
variable {w W3 W W' : World} {g : Nat} {v0 v1 v2 : Value} {L : List (Nat × Obj)}
theorem below (h : SF w W3 g v0 v1 v2 L W) (hb : Below W.heap.size W W') : SF w W3 g v0 v1 v2 L W' :=
  ⟨pw_cell_below hb h.1, pw_cell_below hb h.2.1, pw_cell_below hb h.2.2.1, h.2.2.2.1.below hb, h.2.2.2.2.trans (hb.mono h.2.2.2.2.size)⟩
theorem alloc (h : SF w W3 g v0 v1 v2 L W) (o : Obj) : SF w W3 g v0 v1 v2 L (W.alloc o) := h.below (below_alloc (Below.refl _ _) o)
theorem drew (h : SF w W3 g v0 v1 v2 L W) : SF w W3 g v0 v1 v2 L W.drew := h.below (below_drew (Below.refl _ _))
theorem set (h : SF w W3 g v0 v1 v2 L W) {g2 : Nat} (hg : g ≠ g2) (hL : ∀ p ∈ L, p.1 ≠ g2) (hlo : w.heap.size ≤ g2) (h3 : W3.heap.size ≤ g2) (j : Nat) (u : Value) : SF w W3 g v0 v1 v2 L (W.setCell ⟨g2, j, none⟩ u) := by
  have hc : Chg (fun k => k = g2) W (W.setCell ⟨g2, j, none⟩ u) := (Chg.refl (fun k => k = g2) W).setCell (p := ⟨g2, j, none⟩) rfl u
  have cl : ∀ (i : Nat) (v : Value), W.cell? ⟨g, i, none⟩ = some v → (W.setCell ⟨g2, j, none⟩ u).cell? ⟨g, i, none⟩ = some v := fun i v hv => by
    have h2 := hc.block g (World.block_lt_of_cell? W _ hv) hg
    simpa [World.cell?, h2] using hv
  exact ⟨cl 0 v0 h.1, cl 1 v1 h.2.1, cl 2 v2 h.2.2.1, h.2.2.2.1.chg hc (fun k hk => by rw [hk]; exact hlo) (fun p hp e => hL p hp e), h.2.2.2.2.trans (hc.below (h.2.2.2.2.size) (fun k hk => by rw [hk]; exact h3))⟩
end SF
set_option maxRecDepth 100000 in
set_option maxHeartbeats 8000000 in
theorem SimulateFires_walk (nm : ByteArray) (A1 : Option Addr) (c1 : Nat) (ps : List S65) (A2 : Option Addr) (c2 : Nat) (ts : List S68) (Aw : Option Addr) (cw : Nat) (ws : List Int) (s : Nat) (steps : Int) (w : World)
    (hp : Kd.C k65 w A1 ps.length ps) (hc1 : ps.length ≤ c1) (hts : Kd.C k68 w A2 ts.length ts) (hc2 : ts.length ≤ c2) (hw : Kd.C (Kd.int .i64) w Aw ws.length ws) (hcw : ws.length ≤ cw) :
    Calls Try.prog 3 #[.agg #[.string nm, .slice A1 ps.length c1, .slice A2 ts.length c2], .agg #[.slice Aw ws.length cw, .int .u64 (s : Int), .int .i64 steps]] w fun e w' => e = .returned (.bool true) ∧ Below w.heap.size w w' := by
  have hwl := Kd.C_max hw
  have hex := Aside0.mk (fun W => petrinetlaw53_exampleHolds.calls _ true W (example_ev.ex).choose_spec)
  have H0 := ((Held.refl w).push (.cells #[.string nm, .slice A1 ps.length c1, .slice A2 ts.length c2] 25)).push (.cells #[.slice Aw ws.length cw, .int .u64 (s : Int), .int .i64 steps] 29)
  simp only [World.size_alloc] at H0
  have hsm := Aside0.mk ((callsIn_wide (n := 0)).1 (small_in nm A1 c1 ps A2 c2 ts _ (Kd.C_below hp H0.bel) (Kd.C_below hts H0.bel)))
  have nd0 := H0.cell 1 0 rfl rfl
  have nd1 := H0.cell 1 1 rfl rfl
  have nd2 := H0.cell 1 2 rfl rfl
  replace H0 := Aside0.mk H0
  by_cases hs : small nm ps ts
  · rw [smV, if_pos hs] at hsm
    have hlk := Aside0.mk (small_lenOk hs)
    have hl12 : ps.length ≤ 26 ∧ ts.length ≤ 26 := ⟨hs.1, hs.2.1⟩
    clear hs
    obtain ⟨b, hb⟩ : ∃ b, petrinetlaw53_long.f ws (s : Int) steps = some b := by
      rw [petrinetlaw53_long.f]
      split
      · split <;> exact ⟨_, rfl⟩
      · exact ⟨_, rfl⟩
    replace hb := Aside0.mk hb
    go_enter Try.func3, Try.ntmps3
    go_wp2_with fail
    refine hsm.out.mono ?_
    rintro e W1 ⟨rfl, hb1⟩
    have H1 := (H0.out.below hb1).push (.cells #[.string nm, .slice A1 ps.length c1, .slice A2 ts.length c2] 25)
    have a0 := H1.cell 1 0 rfl rfl
    have a1 := H1.cell 1 1 rfl rfl
    have a2 := H1.cell 1 2 rfl rfl
    have n0 := H1.cell 0 0 rfl rfl
    have n1 := H1.cell 0 1 rfl rfl
    have n2 := H1.cell 0 2 rfl rfl
    have hlg := Aside0.mk (petrinetlaw53_long.calls Aw cw ws (s : Int) steps b _ (Kd.C_below hw H1.bel) hcw hb.out)
    replace H1 := Aside0.mk H1
    clear hb1 hsm nd0 nd1 nd2 H0
    go_wp2_with fail
    refine hlg.out.mono ?_
    rintro e W2 ⟨rfl, hb2⟩
    have H2 := H1.out.below hb2
    have a0 := H2.cell 1 0 rfl rfl
    have a1 := H2.cell 1 1 rfl rfl
    have a2 := H2.cell 1 2 rfl rfl
    have n0 := H2.cell 0 0 rfl rfl
    have n1 := H2.cell 0 1 rfl rfl
    have n2 := H2.cell 0 2 rfl rfl
    clear hb2 hlg H1
    cases b with
    | true =>
      replace H2 := Aside0.mk H2
      go_wp2_with fail
      refine (hex.out _).mono ?_
      rintro e W3 ⟨rfl, hb3⟩
      have H3 := Aside0.mk (H2.out.below hb3)
      clear hb3 H2 hex a0 a1 a2 n0 n1 n2
      go_wp2
      go_ret
      exact ⟨rfl, H3.out.bel⟩
    | false =>
      by_cases hok : simChk nm ps ts ws steps = 0 ∧ (runR' ps ts ws s steps).2.2 = 0
      · obtain ⟨hc0, he⟩ := hok
        have h0 := simChk_zero hc0
        have hR : SimRun nm ps ts ws s steps = ((runR' ps ts ws s steps).1.map (·.1), lastOf (m0L ps) (runR' ps ts ws s steps).1, 0) := by rw [SimRun, if_pos hc0, if_pos he, lastL_of]
        obtain ⟨hr1, hr2, hr3⟩ := walk_runs (ws := ws) h0.net steps.toNat (m0L ps) s 0 h0.way he
        have hpos := walk_pos steps.toNat (m0L ps) s h0.way
        have hwl2 := walk_len (ps := ps) (ts := ts) (ws := ws) steps.toNat (m0L ps) s
        unfold runR' at hR
        obtain ⟨l, hl⟩ : ∃ l, (walkR ps ts ws steps.toNat (m0L ps) s).1 = l := ⟨_, rfl⟩
        rw [hl] at hr1 hr2 hr3 hpos hwl2 hR
        obtain ⟨M, hM⟩ : ∃ M, lastOf (m0L ps) l = M := ⟨_, rfl⟩
        rw [hM] at hr1 hr2 hr3 hR
        obtain ⟨f, hf⟩ : ∃ f, l.map (·.1) = f := ⟨_, rfl⟩
        have hfl : f.length = l.length := by rw [← hf, List.length_map]
        have hfp : ∀ t ∈ f, 0 ≤ t ∧ t < (ws.length : Int) ∧ 0 < rd ws t := fun t ht => by
          rw [← hf] at ht
          obtain ⟨p, hp, rfl⟩ := List.mem_map.1 ht
          have := hpos p hp
          have := h0.way.len
          exact ⟨by omega, by omega, by omega⟩
        have hst := h0.st
        rw [hf] at hr1 hR
        have hRR : RunR nm ps ts (m0L ps) f = (M, 0, 0) := by
          rw [RunR, if_neg (by simp [h0.net]), if_pos (markB_of h0.way.mark)]; exact hr1
        have hfs : (f.length : Int) ≤ steps := by omega
        have hrun := refRun_ev nm ps ts (m0L ps) f (by omega) (by omega) hlk.out (by rw [h0.way.mark.len]; omega) (by omega)
        rw [hRR] at hrun
        obtain ⟨k1, hk1⟩ := (SimRun_ev nm ps ts ws s steps (by omega)).ex
        rw [hR] at hk1
        obtain ⟨k2, hk2⟩ := (refinit_ev h0.net h0.way.net hlk.out).ex
        obtain ⟨k3, hk3⟩ := hrun.ex
        obtain ⟨k4, hk4⟩ := (same_ev M (by rw [hr2.mark.len]; omega)).ex
        obtain ⟨k5, hk5⟩ := (reflist_ev h0.net h0.way.net hr2.mark hlk.out).ex
        have hml := hr2.may_len
        have hmlt := hr2.may_lt
        have hz : (f.length : Int) < steps → ∀ t ∈ firesN ps ts M, rd ws t = 0 := fun hlt => sumW_zero hr2.ok _ (by rw [← hr2.wgt_sum]; exact hr3 (by omega))
        obtain ⟨may, hmay⟩ : ∃ may, firesN ps ts M = may := ⟨_, rfl⟩
        rw [hmay] at hk5 hml hmlt hz
        replace hk2 := Aside0.mk hk2
        replace hk3 := Aside0.mk hk3
        replace hk4 := Aside0.mk hk4
        replace hk5 := Aside0.mk hk5
        replace hfp := Aside0.mk hfp
        replace hmlt := Aside0.mk hmlt
        replace hz := Aside0.mk hz
        have hcall := Aside0.mk (simulate_Run.calls k1 nm A1 c1 ps A2 c2 ts Aw cw ws (s : Int) steps f M 0 W2 (Kd.C_below hp H2.bel) hc1 (Kd.C_below hts H2.bel) hc2 (Kd.C_below hw H2.bel) hcw hk1)
        replace H2 := Aside0.mk H2
        clear hk1 hR hrun hRR hr1 hr2 hr3 hpos hwl2 hf hM hl hmay hc0 he h0 hfl
        go_wp2_with fail
        refine hcall.out.mono ?_
        rintro e W3 ⟨v0, v1, rfl, hv0, hv1, hb3⟩
        have H3 := H2.out.below hb3
        obtain ⟨Al, cl, rfl, hcl, hCl⟩ := Kd.R_reads hv0
        obtain ⟨Am, cm, rfl, hcm, hCm⟩ := Kd.R_reads hv1
        have hlmx := Kd.C_max hCl
        replace hCl := Aside0.mk hCl
        replace hCm := Aside0.mk hCm
        replace H3 := Aside0.mk H3
        clear hcall hv0 hv1 hb3 H2 a0 a1 a2 n0 n1 n2
        go_wp2
        go_loopg [10] f.length (fun kx iv wr => ∃ i : Nat, iv = .int .i64 i ∧ i ≤ f.length ∧ f.length - i ≤ kx ∧ Aside0 (Below W3.heap.size W3 wr))
        case atStart => exact ⟨0, rfl, Nat.zero_le _, by omega, ⟨Below.refl _ _⟩⟩
        case round =>
          obtain ⟨i, rfl, hi, hkx, hB⟩ := hrel
          have HI := H3.out.below hB.out
          have a0 := HI.cell 1 0 rfl rfl
          have n0 := HI.cell 0 0 rfl rfl
          have n1 := HI.cell 0 1 rfl rfl
          have n2 := HI.cell 0 2 rfl rfl
          have a2 := HI.cell 1 2 rfl rfl
          by_cases hlt : i < f.length
          · obtain ⟨al, hAl, hc⟩ := int_at (Kd.C_below hCl.out hB.out) i hlt
            subst hAl
            have hmem : f.getD i 0 ∈ f := by rw [List.getD_eq_getElem?_getD, List.getElem?_eq_getElem hlt]; exact List.getElem_mem hlt
            obtain ⟨ht0, ht1, ht2⟩ := hfp.out _ hmem
            obtain ⟨t, ht⟩ : ∃ t, f.getD i 0 = t := ⟨_, rfl⟩
            rw [ht] at hc ht0 ht1 ht2
            obtain ⟨tn, rfl⟩ := Int.eq_ofNat_of_zero_le ht0
            have htl : tn < ws.length := by omega
            obtain ⟨aw, hAw, hcw2⟩ := int_at (Kd.C_below hw HI.bel) tn htl
            subst hAw
            obtain ⟨x, hx⟩ : ∃ x, ws.getD tn 0 = x := ⟨_, rfl⟩
            rw [hx] at hcw2
            rw [rd_nat, hx] at ht2
            have e1 : decide ((tn : Int) < 0) = false := decide_eq_false (by omega)
            have e2 : decide ((tn : Int) ≥ (ws.length : Int)) = false := decide_eq_false (by omega)
            have e3 : decide (x < 1) = false := decide_eq_false (by omega)
            have hlt2 := Aside0.mk (show i + 1 ≤ f.length from hlt)
            clear hmem ht hx
            go_wp2
            repeat (go_quiet (fail); try go_wp2)
            go_roundg (f.length - (i + 1))
            case measure => have := hlt2.out; omega
            case rel => exact ⟨i + 1, by go_num, hlt2.out, Nat.le_refl _, ⟨hB.out.trans ((pw_below_drewN (Below.refl _ _) _).mono hB.out.size)⟩⟩
          · obtain rfl : i = f.length := by omega
            have hS0 : SF w W3 W1.heap.size (.string nm) (.slice A1 ps.length c1) (.slice A2 ts.length c2) [(W1.heap.size, .cells #[.string nm, .slice A1 ps.length c1, .slice A2 ts.length c2] 25 (0, 0)), (w.heap.size + 1, .cells #[.slice Aw ws.length cw, .int .u64 (s : Int), .int .i64 steps] 29 (0, 0)), (w.heap.size, .cells #[.string nm, .slice A1 ps.length c1, .slice A2 ts.length c2] 25 (0, 0))] wr := ⟨n0, n1, n2, HI, hB.out⟩
            have hini : ∀ W, SF w W3 W1.heap.size (.string nm) (.slice A1 ps.length c1) (.slice A2 ts.length c2) [(W1.heap.size, .cells #[.string nm, .slice A1 ps.length c1, .slice A2 ts.length c2] 25 (0, 0)), (w.heap.size + 1, .cells #[.slice Aw ws.length cw, .int .u64 (s : Int), .int .i64 steps] 29 (0, 0)), (w.heap.size, .cells #[.string nm, .slice A1 ps.length c1, .slice A2 ts.length c2] 25 (0, 0))] W → _ := fun W H => petrinetref09_Initial.calls k2 nm A1 c1 ps A2 c2 ts (m0L ps) W (Kd.C_below hp H.2.2.2.1.bel) hc1 (Kd.C_below hts H.2.2.2.1.bel) hc2 hk2.out
            have hrun : ∀ W Ai ci, SF w W3 W1.heap.size (.string nm) (.slice A1 ps.length c1) (.slice A2 ts.length c2) [(W1.heap.size, .cells #[.string nm, .slice A1 ps.length c1, .slice A2 ts.length c2] 25 (0, 0)), (w.heap.size + 1, .cells #[.slice Aw ws.length cw, .int .u64 (s : Int), .int .i64 steps] 29 (0, 0)), (w.heap.size, .cells #[.string nm, .slice A1 ps.length c1, .slice A2 ts.length c2] 25 (0, 0))] W → Kd.C (Kd.int .i64) W Ai (m0L ps).length (m0L ps) → (m0L ps).length ≤ ci → _ := fun W Ai ci H hCi hci => petrinetref11_Run.calls k3 nm A1 c1 ps A2 c2 ts Ai ci (m0L ps) Al cl f M 0 0 W (Kd.C_below hp H.2.2.2.1.bel) hc1 (Kd.C_below hts H.2.2.2.1.bel) hc2 hCi hci (Kd.C_below hCl.out H.2.2.2.2) hcl hk3.out
            replace hini := Aside0.mk hini
            replace hrun := Aside0.mk hrun
            have hSw := Aside0.mk hS0
            replace hS0 := Aside0.mk hS0.drew
            replace HI := Aside0.mk HI
            clear a0 a2
            go_wp2
            go_region_held3 (fun w' => w'.cell? ⟨W1.heap.size, 0, none⟩ = some (.string nm) ∧ w'.cell? ⟨W1.heap.size, 1, none⟩ = some (.slice A1 ps.length c1) ∧ w'.cell? ⟨W1.heap.size, 2, none⟩ = some (.slice A2 ts.length c2) ∧ Held w [(W1.heap.size, .cells #[.string nm, .slice A1 ps.length c1, .slice A2 ts.length c2] 25 (0, 0)), (w.heap.size + 1, .cells #[.slice Aw ws.length cw, .int .u64 (s : Int), .int .i64 steps] 29 (0, 0)), (w.heap.size, .cells #[.string nm, .slice A1 ps.length c1, .slice A2 ts.length c2] 25 (0, 0))] w' ∧ Below W3.heap.size W3 w')
              ((first | (with_reducible exact hS0.out) | (with_reducible exact (hSw.out.alloc _).drew) | (with_reducible exact hS1.out) | (with_reducible exact hS1.out.alloc _) | (with_reducible exact hS2.out) | (with_reducible exact hS2.out.alloc _) | (with_reducible exact hS3.out)))
              ((first
                | (go_at_call 12; with_reducible refine (hini.out _ hS0.out).mono ?_; rintro e w2 ⟨vi, rfl, hRi, hbi⟩; have hS1 := Aside0.mk (hS0.out.below hbi); obtain ⟨Ai, ci, rfl, hci, hCi⟩ := Kd.R_reads hRi; replace hCi := Aside0.mk hCi; clear hRi hbi)
                | (go_at_call 12; with_reducible refine (hini.out _ (hSw.out.alloc _).drew).mono ?_; rintro e w2 ⟨vi, rfl, hRi, hbi⟩; have hS1 := Aside0.mk ((hSw.out.alloc _).drew.below hbi); have kz := blk_below (blk_drew (blk_new wr _)) hbi; obtain ⟨Ai, ci, rfl, hci, hCi⟩ := Kd.R_reads hRi; replace hCi := Aside0.mk hCi; clear hRi hbi)
                | (go_at_call 11; with_reducible refine (hrun.out _ Ai ci hS1.out hCi.out hci).mono ?_; rintro e w3 ⟨v5, rfl, hR5, hb5⟩; have hS2 := Aside0.mk (hS1.out.below hb5); (try (have kz := blk_below kz hb5)); have hS3 := Aside0.mk ((hS2.out.set (g2 := wr.heap.size) (by have := hSw.out.2.2.2.1.lt _ (Held.mem (i := 0) rfl); simp at this; omega) (fun p hp => by have := hSw.out.2.2.2.1.lt p hp; omega) hSw.out.2.2.2.1.size hSw.out.2.2.2.2.size 0 (.int .i64 0)).set (g2 := wr.heap.size) (by have := hSw.out.2.2.2.1.lt _ (Held.mem (i := 0) rfl); simp at this; omega) (fun p hp => by have := hSw.out.2.2.2.1.lt p hp; omega) hSw.out.2.2.2.1.size hSw.out.2.2.2.2.size 1 (.int .i64 0)); obtain ⟨A5, c5, rfl, hc5, hC5⟩ := Kd.R_reads hR5; (try (have hR5s := R_farT2 (R_farT2 hR5 kz (by decide) 0 (.int .i64 0)) (blk_set kz 0 (.int .i64 0)) (by decide) 1 (.int .i64 0); replace hR5s := Aside0.mk hR5s)); (try (have kf0 := blk_frozen kz 0; have kf1 := blk_frozen kz 1; have kc0 := blk_cell kz 0; have kc1 := blk_cell kz 1)); replace hC5 := Aside0.mk hC5; clear hR5 hb5)
                | (go_at_call 11; with_reducible refine (hrun.out _ Ai ci (hS1.out.alloc _) (Kd.C_alloc hCi.out _) hci).mono ?_; rintro e w3 ⟨v5, rfl, hR5, hb5⟩; have hS2 := Aside0.mk ((hS1.out.alloc _).below hb5); have hS3 := Aside0.mk ((hS2.out.set (g2 := w2.heap.size) (by have := hS1.out.2.2.2.1.lt _ (Held.mem (i := 0) rfl); simp at this; omega) (fun p hp => by have := hS1.out.2.2.2.1.lt p hp; omega) hS1.out.2.2.2.1.size hS1.out.2.2.2.2.size 0 (.int .i64 0)).set (g2 := w2.heap.size) (by have := hS1.out.2.2.2.1.lt _ (Held.mem (i := 0) rfl); simp at this; omega) (fun p hp => by have := hS1.out.2.2.2.1.lt p hp; omega) hS1.out.2.2.2.1.size hS1.out.2.2.2.2.size 1 (.int .i64 0)); have kz := blk_below (blk_new w2 _) hb5; obtain ⟨A5, c5, rfl, hc5, hC5⟩ := Kd.R_reads hR5; have hR5s := R_farT2 (R_farT2 hR5 kz (by decide) 0 (.int .i64 0)) (blk_set kz 0 (.int .i64 0)) (by decide) 1 (.int .i64 0); replace hR5s := Aside0.mk hR5s; have kf0 := blk_frozen kz 0; have kf1 := blk_frozen kz 1; have kc0 := blk_cell kz 0; have kc1 := blk_cell kz 1; replace hC5 := Aside0.mk hC5; clear hR5 hb5)))
            · have hSX := hS2.out.alloc (.cells #[.int .i64 0, .int .i64 0] 38)
              have hsame := Aside0.mk (petrinetref04_Same.calls k4 A5 c5 M Am cm M true _ (Kd.C_alloc hC5.out (.cells #[.int .i64 0, .int .i64 0] 38)) hc5 (Kd.C_below hCm.out hSX.2.2.2.2) hcm hk4.out)
              have e4 : decide ((f.length : Int) > steps) = false := decide_eq_false (by omega)
              have e5 : decide (steps < (f.length : Int)) = false := decide_eq_false (by omega)
              replace hSX := Aside0.mk hSX
              clear hS0 hS1 hS2 hSw hS3 hC5 hCi hini hrun HI n0 n1 n2
              go_wp2_with fail
              refine hsame.out.mono ?_
              rintro e w4 ⟨rfl, hd4⟩
              have hS4 := hSX.out.below hd4.below
              obtain ⟨n0, n1, n2, H4, hB4⟩ := hS4
              have a2 := H4.cell 1 2 rfl rfl
              have hlist := Aside0.mk (petrinetref11_List.calls k5 nm A1 c1 ps A2 c2 ts Am cm M may w4 (Kd.C_below hp H4.bel) hc1 (Kd.C_below hts H4.bel) hc2 (Kd.C_below hCm.out hB4) hcm hk5.out)
              replace H4 := Aside0.mk H4
              clear hsame hd4 hSX hB4
              go_wp2_with fail
              refine hlist.out.mono ?_
              rintro e w5 ⟨v6, rfl, hR6, hb6⟩
              have H5 := Aside0.mk (H4.out.below hb6)
              obtain ⟨A6, c6, rfl, hc6, hC6⟩ := Kd.R_reads hR6
              replace hC6 := Aside0.mk hC6
              clear hlist hR6 hb6 H4 n0 n1 n2 a2
              go_wp2
              go_loopg [14] may.length (fun kx iv wr => ∃ i : Nat, iv = .int .i64 i ∧ i ≤ may.length ∧ may.length - i ≤ kx ∧ Aside0 (Below w5.heap.size w5 wr))
              case atStart => exact ⟨0, rfl, Nat.zero_le _, by omega, ⟨Below.refl _ _⟩⟩
              case round =>
                obtain ⟨i, rfl, hi, hkx, hB⟩ := hrel
                have HJ := H5.out.below hB.out
                have a0 := HJ.cell 1 0 rfl rfl
                have a2 := HJ.cell 1 2 rfl rfl
                by_cases hlt : i < may.length ∧ (f.length : Int) < steps
                · obtain ⟨hlt, hls⟩ := hlt
                  obtain ⟨al, hAl, hc⟩ := int_at (Kd.C_below hC6.out hB.out) i hlt
                  subst hAl
                  have hmem : may.getD i 0 ∈ may := by rw [List.getD_eq_getElem?_getD, List.getElem?_eq_getElem hlt]; exact List.getElem_mem hlt
                  obtain ⟨ht0, ht1⟩ := hmlt.out _ hmem
                  have ht2 := hz.out hls _ hmem
                  obtain ⟨t, ht⟩ : ∃ t, may.getD i 0 = t := ⟨_, rfl⟩
                  rw [ht] at hc ht0 ht1 ht2
                  obtain ⟨tn, rfl⟩ := Int.eq_ofNat_of_zero_le ht0
                  have htl : tn < ws.length := by omega
                  obtain ⟨aw, hAw, hcw2⟩ := int_at (Kd.C_below hw HJ.bel) tn htl
                  subst hAw
                  rw [rd_nat] at ht2
                  rw [ht2] at hcw2
                  have hlt2 := Aside0.mk (show i + 1 ≤ may.length from hlt)
                  have e6 : decide ((f.length : Int) < steps) = true := decide_eq_true hls
                  clear hmem ht ht2
                  go_wp2
                  repeat (go_quiet (fail); try go_wp2)
                  go_roundg (may.length - (i + 1))
                  case measure => have := hlt2.out; omega
                  case rel => exact ⟨i + 1, by go_num, hlt2.out, Nat.le_refl _, ⟨hB.out.trans ((pw_below_drewN (Below.refl _ _) _).mono hB.out.size)⟩⟩
                · replace HJ := Aside0.mk HJ
                  by_cases hlt1 : i < may.length
                  · have e6 : decide ((f.length : Int) < steps) = false := decide_eq_false (fun h => hlt ⟨hlt1, h⟩)
                    clear hlt
                    go_wp2_with fail
                    refine (hex.out _).mono ?_
                    rintro e W9 ⟨rfl, hb9⟩
                    have H9 := Aside0.mk (HJ.out.below hb9)
                    clear hb9
                    go_wp2
                    go_ret
                    exact ⟨rfl, H9.out.bel⟩
                  · obtain rfl : i = may.length := by omega
                    clear hlt
                    go_wp2_with fail
                    refine (hex.out _).mono ?_
                    rintro e W9 ⟨rfl, hb9⟩
                    have H9 := Aside0.mk (HJ.out.below hb9)
                    clear hb9
                    go_wp2
                    go_ret
                    exact ⟨rfl, H9.out.bel⟩
            · have hSX := hS3.out
              have hsame := Aside0.mk (petrinetref04_Same.calls k4 A5 c5 M Am cm M true _ (Kd.R_reads' hR5s.out).2.2 hc5 (Kd.C_below hCm.out hSX.2.2.2.2) hcm hk4.out)
              have e4 : decide ((f.length : Int) > steps) = false := decide_eq_false (by omega)
              have e5 : decide (steps < (f.length : Int)) = false := decide_eq_false (by omega)
              replace hSX := Aside0.mk hSX
              clear hS0 hS1 hS2 hSw hS3 hC5 hCi hini hrun HI n0 n1 n2 hR5s
              go_wp2_with fail
              refine hsame.out.mono ?_
              rintro e w4 ⟨rfl, hd4⟩
              have hS4 := hSX.out.below hd4.below
              obtain ⟨n0, n1, n2, H4, hB4⟩ := hS4
              have a2 := H4.cell 1 2 rfl rfl
              have hlist := Aside0.mk (petrinetref11_List.calls k5 nm A1 c1 ps A2 c2 ts Am cm M may w4 (Kd.C_below hp H4.bel) hc1 (Kd.C_below hts H4.bel) hc2 (Kd.C_below hCm.out hB4) hcm hk5.out)
              replace H4 := Aside0.mk H4
              clear hsame hd4 hSX hB4
              go_wp2_with fail
              refine hlist.out.mono ?_
              rintro e w5 ⟨v6, rfl, hR6, hb6⟩
              have H5 := Aside0.mk (H4.out.below hb6)
              obtain ⟨A6, c6, rfl, hc6, hC6⟩ := Kd.R_reads hR6
              replace hC6 := Aside0.mk hC6
              clear hlist hR6 hb6 H4 n0 n1 n2 a2
              go_wp2
              go_loopg [14] may.length (fun kx iv wr => ∃ i : Nat, iv = .int .i64 i ∧ i ≤ may.length ∧ may.length - i ≤ kx ∧ Aside0 (Below w5.heap.size w5 wr))
              case atStart => exact ⟨0, rfl, Nat.zero_le _, by omega, ⟨Below.refl _ _⟩⟩
              case round =>
                obtain ⟨i, rfl, hi, hkx, hB⟩ := hrel
                have HJ := H5.out.below hB.out
                have a0 := HJ.cell 1 0 rfl rfl
                have a2 := HJ.cell 1 2 rfl rfl
                by_cases hlt : i < may.length ∧ (f.length : Int) < steps
                · obtain ⟨hlt, hls⟩ := hlt
                  obtain ⟨al, hAl, hc⟩ := int_at (Kd.C_below hC6.out hB.out) i hlt
                  subst hAl
                  have hmem : may.getD i 0 ∈ may := by rw [List.getD_eq_getElem?_getD, List.getElem?_eq_getElem hlt]; exact List.getElem_mem hlt
                  obtain ⟨ht0, ht1⟩ := hmlt.out _ hmem
                  have ht2 := hz.out hls _ hmem
                  obtain ⟨t, ht⟩ : ∃ t, may.getD i 0 = t := ⟨_, rfl⟩
                  rw [ht] at hc ht0 ht1 ht2
                  obtain ⟨tn, rfl⟩ := Int.eq_ofNat_of_zero_le ht0
                  have htl : tn < ws.length := by omega
                  obtain ⟨aw, hAw, hcw2⟩ := int_at (Kd.C_below hw HJ.bel) tn htl
                  subst hAw
                  rw [rd_nat] at ht2
                  rw [ht2] at hcw2
                  have hlt2 := Aside0.mk (show i + 1 ≤ may.length from hlt)
                  have e6 : decide ((f.length : Int) < steps) = true := decide_eq_true hls
                  clear hmem ht ht2
                  go_wp2
                  repeat (go_quiet (fail); try go_wp2)
                  go_roundg (may.length - (i + 1))
                  case measure => have := hlt2.out; omega
                  case rel => exact ⟨i + 1, by go_num, hlt2.out, Nat.le_refl _, ⟨hB.out.trans ((pw_below_drewN (Below.refl _ _) _).mono hB.out.size)⟩⟩
                · replace HJ := Aside0.mk HJ
                  by_cases hlt1 : i < may.length
                  · have e6 : decide ((f.length : Int) < steps) = false := decide_eq_false (fun h => hlt ⟨hlt1, h⟩)
                    clear hlt
                    go_wp2_with fail
                    refine (hex.out _).mono ?_
                    rintro e W9 ⟨rfl, hb9⟩
                    have H9 := Aside0.mk (HJ.out.below hb9)
                    clear hb9
                    go_wp2
                    go_ret
                    exact ⟨rfl, H9.out.bel⟩
                  · obtain rfl : i = may.length := by omega
                    clear hlt
                    go_wp2_with fail
                    refine (hex.out _).mono ?_
                    rintro e W9 ⟨rfl, hb9⟩
                    have H9 := Aside0.mk (HJ.out.below hb9)
                    clear hb9
                    go_wp2
                    go_ret
                    exact ⟨rfl, H9.out.bel⟩
            · have hSX := hS3.out
              have hsame := Aside0.mk (petrinetref04_Same.calls k4 A5 c5 M Am cm M true _ (Kd.R_reads' hR5s.out).2.2 hc5 (Kd.C_below hCm.out hSX.2.2.2.2) hcm hk4.out)
              have e4 : decide ((f.length : Int) > steps) = false := decide_eq_false (by omega)
              have e5 : decide (steps < (f.length : Int)) = false := decide_eq_false (by omega)
              replace hSX := Aside0.mk hSX
              clear hS0 hS1 hS2 hSw hS3 hC5 hCi hini hrun HI n0 n1 n2 hR5s
              go_wp2_with fail
              refine hsame.out.mono ?_
              rintro e w4 ⟨rfl, hd4⟩
              have hS4 := hSX.out.below hd4.below
              obtain ⟨n0, n1, n2, H4, hB4⟩ := hS4
              have a2 := H4.cell 1 2 rfl rfl
              have hlist := Aside0.mk (petrinetref11_List.calls k5 nm A1 c1 ps A2 c2 ts Am cm M may w4 (Kd.C_below hp H4.bel) hc1 (Kd.C_below hts H4.bel) hc2 (Kd.C_below hCm.out hB4) hcm hk5.out)
              replace H4 := Aside0.mk H4
              clear hsame hd4 hSX hB4
              go_wp2_with fail
              refine hlist.out.mono ?_
              rintro e w5 ⟨v6, rfl, hR6, hb6⟩
              have H5 := Aside0.mk (H4.out.below hb6)
              obtain ⟨A6, c6, rfl, hc6, hC6⟩ := Kd.R_reads hR6
              replace hC6 := Aside0.mk hC6
              clear hlist hR6 hb6 H4 n0 n1 n2 a2
              go_wp2
              go_loopg [14] may.length (fun kx iv wr => ∃ i : Nat, iv = .int .i64 i ∧ i ≤ may.length ∧ may.length - i ≤ kx ∧ Aside0 (Below w5.heap.size w5 wr))
              case atStart => exact ⟨0, rfl, Nat.zero_le _, by omega, ⟨Below.refl _ _⟩⟩
              case round =>
                obtain ⟨i, rfl, hi, hkx, hB⟩ := hrel
                have HJ := H5.out.below hB.out
                have a0 := HJ.cell 1 0 rfl rfl
                have a2 := HJ.cell 1 2 rfl rfl
                by_cases hlt : i < may.length ∧ (f.length : Int) < steps
                · obtain ⟨hlt, hls⟩ := hlt
                  obtain ⟨al, hAl, hc⟩ := int_at (Kd.C_below hC6.out hB.out) i hlt
                  subst hAl
                  have hmem : may.getD i 0 ∈ may := by rw [List.getD_eq_getElem?_getD, List.getElem?_eq_getElem hlt]; exact List.getElem_mem hlt
                  obtain ⟨ht0, ht1⟩ := hmlt.out _ hmem
                  have ht2 := hz.out hls _ hmem
                  obtain ⟨t, ht⟩ : ∃ t, may.getD i 0 = t := ⟨_, rfl⟩
                  rw [ht] at hc ht0 ht1 ht2
                  obtain ⟨tn, rfl⟩ := Int.eq_ofNat_of_zero_le ht0
                  have htl : tn < ws.length := by omega
                  obtain ⟨aw, hAw, hcw2⟩ := int_at (Kd.C_below hw HJ.bel) tn htl
                  subst hAw
                  rw [rd_nat] at ht2
                  rw [ht2] at hcw2
                  have hlt2 := Aside0.mk (show i + 1 ≤ may.length from hlt)
                  have e6 : decide ((f.length : Int) < steps) = true := decide_eq_true hls
                  clear hmem ht ht2
                  go_wp2
                  repeat (go_quiet (fail); try go_wp2)
                  go_roundg (may.length - (i + 1))
                  case measure => have := hlt2.out; omega
                  case rel => exact ⟨i + 1, by go_num, hlt2.out, Nat.le_refl _, ⟨hB.out.trans ((pw_below_drewN (Below.refl _ _) _).mono hB.out.size)⟩⟩
                · replace HJ := Aside0.mk HJ
                  by_cases hlt1 : i < may.length
                  · have e6 : decide ((f.length : Int) < steps) = false := decide_eq_false (fun h => hlt ⟨hlt1, h⟩)
                    clear hlt
                    go_wp2_with fail
                    refine (hex.out _).mono ?_
                    rintro e W9 ⟨rfl, hb9⟩
                    have H9 := Aside0.mk (HJ.out.below hb9)
                    clear hb9
                    go_wp2
                    go_ret
                    exact ⟨rfl, H9.out.bel⟩
                  · obtain rfl : i = may.length := by omega
                    clear hlt
                    go_wp2_with fail
                    refine (hex.out _).mono ?_
                    rintro e W9 ⟨rfl, hb9⟩
                    have H9 := Aside0.mk (HJ.out.below hb9)
                    clear hb9
                    go_wp2
                    go_ret
                    exact ⟨rfl, H9.out.bel⟩
      · obtain ⟨e0, he0, hT⟩ : ∃ e : Int, e ≠ 0 ∧ SimRun nm ps ts ws s steps = ([], [], e) := by
          by_cases hc0 : simChk nm ps ts ws steps = 0
          · have he : ¬ (runR' ps ts ws s steps).2.2 = 0 := fun h => hok ⟨hc0, h⟩
            exact ⟨_, he, by rw [SimRun, if_pos hc0, if_neg he]⟩
          · exact ⟨_, hc0, by rw [SimRun, if_neg hc0]⟩
        obtain ⟨k1, hk1⟩ := (SimRun_ev nm ps ts ws s steps (by omega)).ex
        rw [hT] at hk1
        have hcall := Aside0.mk (simulate_Run.calls k1 nm A1 c1 ps A2 c2 ts Aw cw ws (s : Int) steps [] [] e0 W2 (Kd.C_below hp H2.bel) hc1 (Kd.C_below hts H2.bel) hc2 (Kd.C_below hw H2.bel) hcw hk1)
        have b1 : (e0 != (0 : Int)) = true := by simp [he0]
        replace H2 := Aside0.mk H2
        clear hk1 hT he0 hok
        go_wp2_with fail
        refine hcall.out.mono ?_
        rintro e W3 ⟨v0, v1, rfl, hv0, hv1, hb3⟩
        obtain ⟨Al, cl, rfl, hcl, _⟩ := Kd.R_reads hv0
        obtain ⟨Am, cm, rfl, hcm, _⟩ := Kd.R_reads hv1
        clear hv0 hv1
        have H3 := Aside0.mk (H2.out.below hb3)
        clear hcall hb3 H2 a0 a1 a2 n0 n1 n2
        go_wp2_with fail
        refine (hex.out _).mono ?_
        rintro e W9 ⟨rfl, hb9⟩
        have H9 := Aside0.mk (H3.out.below hb9)
        clear hb9
        go_wp2
        go_ret
        exact ⟨rfl, H9.out.bel⟩

  · rw [smV, if_neg hs] at hsm
    clear hs
    go_enter Try.func3, Try.ntmps3
    go_wp2_with fail
    refine hsm.out.mono ?_
    rintro e W1 ⟨rfl, hb1⟩
    have H1 := (H0.out.below hb1).push (.cells #[.string ⟨#[]⟩, .slice none 0 0, .slice none 0 0] 25)
    replace H1 := Aside0.mk H1
    clear hb1 hsm nd0 nd1 nd2 H0
    go_wp2_with fail
    refine (hex.out _).mono ?_
    rintro e W3 ⟨rfl, hb3⟩
    have H3 := Aside0.mk (H1.out.below hb3)
    clear hb3 H1 hex
    go_wp2
    go_ret
    exact ⟨rfl, H3.out.bel⟩

end Go.Proofs.Yteaimaafahpamaa.Hy
