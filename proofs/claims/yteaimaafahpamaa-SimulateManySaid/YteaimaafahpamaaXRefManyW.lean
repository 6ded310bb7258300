/- By hand (sim_refmanyw2): a part of this seat's proofs. -/
import Derived.Test.YteaimaafahpamaaXRefManyH
import Derived.Deep.RegionHeld3
import Derived.Deep.LoopGhost
import Derived.StillTailTactics
namespace Go.Proofs.Yteaimaafahpamaa.Hy
open Go.RowKit Go.Shelf Go.Proofs.YteaimaafahpamaaW.PrintWords Go.Proofs.YteaimaafahpamaaW.PrintLast Go.Proofs.YteaimaafahpamaaW.PrintMore
set_option linter.unusedVariables false
set_option linter.unusedSimpArgs false
attribute [local go_sem] Oper.semAt_some
/-! ### petrinetref53.Many, walked (under way) -/
abbrev SF (w W3 : World) (g : Nat) (v0 v1 v2 : Value) (L : List (Nat × Obj)) (W : World) : Prop :=
  W.cell? ⟨g, 0, none⟩ = some v0 ∧ W.cell? ⟨g, 1, none⟩ = some v1 ∧ W.cell? ⟨g, 2, none⟩ = some v2 ∧ Held w L W ∧ Below W3.heap.size W3 W
namespace SF
variable {w W3 W W' : World} {g : Nat} {v0 v1 v2 : Value} {L : List (Nat × Obj)}
theorem below (h : SF w W3 g v0 v1 v2 L W) (hb : Below W.heap.size W W') : SF w W3 g v0 v1 v2 L W' :=
  ⟨pw_cell_below hb h.1, pw_cell_below hb h.2.1, pw_cell_below hb h.2.2.1, h.2.2.2.1.below hb, h.2.2.2.2.trans (hb.mono h.2.2.2.2.size)⟩
theorem alloc (h : SF w W3 g v0 v1 v2 L W) (o : Obj) : SF w W3 g v0 v1 v2 L (W.alloc o) := h.below (below_alloc (Below.refl _ _) o)
theorem drew (h : SF w W3 g v0 v1 v2 L W) : SF w W3 g v0 v1 v2 L W.drew := h.below (below_drew (Below.refl _ _))
theorem set (h : SF w W3 g v0 v1 v2 L W) {g2 : Nat} (hg : g ≠ g2) (hL : ∀ p ∈ L, p.1 ≠ g2) (hlo : w.heap.size ≤ g2) (h3 : W3.heap.size ≤ g2) (j : Nat) (u : Value) : SF w W3 g v0 v1 v2 L (W.setCell ⟨g2, j, none⟩ u) := by
  have hc : Chg (fun k => k = g2) W (W.setCell ⟨g2, j, none⟩ u) := (Chg.refl (fun k => k = g2) W).setCell (p := ⟨g2, j, none⟩) rfl u
  have cl : ∀ (i : Nat) (v : Value), W.cell? ⟨g, i, none⟩ = some v → (W.setCell ⟨g2, j, none⟩ u).cell? ⟨g, i, none⟩ = some v := fun i v hv => by
    have h2 := hc.block g (World.block_lt_of_cell? W _ hv) hg
    simpa [World.cell?, h2] using hv
  exact ⟨cl 0 v0 h.1, cl 1 v1 h.2.1, cl 2 v2 h.2.2.1, h.2.2.2.1.chg hc (fun k hk => by rw [hk]; exact hlo) (fun p hp e => hL p hp e), h.2.2.2.2.trans (hc.below (h.2.2.2.2.size) (fun k hk => by rw [hk]; exact h3))⟩
end SF
set_option maxRecDepth 100000 in
set_option maxHeartbeats 8000000 in
theorem petrinetref53_Many.calls (k : Nat) (a0_0 : ByteArray) (A0_1 : Option Addr) (c0_1 : Nat) (l0_1 : List (S65)) (A0_2 : Option Addr) (c0_2 : Nat) (l0_2 : List (S68)) (A1 : Option Addr) (c1 : Nat) (l1 : List Int) (a2 : Int) (a3 : Int) (a4 : Int) (r1 : List Int) (r2 : Int) (r3 : List Int) (r4 : Int) (w : World) (hr0_1 : Kd.C k65 w A0_1 l0_1.length l0_1) (hc0_1 : l0_1.length ≤ c0_1) (hr0_2 : Kd.C k68 w A0_2 l0_2.length l0_2) (hc0_2 : l0_2.length ≤ c0_2) (hr1 : Kd.C (Kd.int .i64) w A1 l1.length l1) (hc1 : l1.length ≤ c1) (h : petrinetref53_Many.f k a0_0 l0_1 l0_2 l1 a2 a3 a4 = some (r1, r2, r3, r4)) :
    Calls Try.prog 20 #[.agg #[.string a0_0, .slice A0_1 l0_1.length c0_1, .slice A0_2 l0_2.length c0_2], .slice A1 l1.length c1, .int .u64 a2, .int .i64 a3, .int .i64 a4] w fun e w' => ∃ v0_ v2_ : Value, e = .returned (.tuple #[.agg #[v0_, .int .i64 r2, v2_], .int .i64 r4]) ∧ Kd.R (Kd.int .i64) 3 w' w.heap.size (fun k_ => some k_ ≠ (v2_ : Value).ownBlock) v0_ r1 ∧ Kd.R (Kd.int .i64) 3 w' w.heap.size (fun k_ => some k_ ≠ (v0_ : Value).ownBlock) v2_ r3 ∧ Below w.heap.size w w' := by
  have H0 := ((Held.refl w).push (.cells #[.string a0_0, .slice A0_1 l0_1.length c0_1, .slice A0_2 l0_2.length c0_2] 25)).push (.cells #[.slice none 0 0, .int .i64 0, .slice none 0 0] 58)
  simp only [World.size_alloc] at H0
  obtain ⟨c, hck, h2⟩ := Option.bind_eq_some_iff.mp h
  have hcc := Aside0.mk (petrinetref53_Check.calls k a0_0 A0_1 c0_1 l0_1 A0_2 c0_2 l0_2 A1 c1 l1 a3 c _ (Kd.C_below hr0_1 H0.bel) hc0_1 (Kd.C_below hr0_2 H0.bel) hc0_2 (Kd.C_below hr1 H0.bel) hc1 hck)
  have nd0 := H0.cell 1 0 rfl rfl
  have nd1 := H0.cell 1 1 rfl rfl
  have nd2 := H0.cell 1 2 rfl rfl
  replace H0 := Aside0.mk H0
  replace h2 := Aside0.mk h2
  clear h hck
  go_enter Try.func20, Try.ntmps20
  go_wp2_with fail
  refine hcc.out.mono ?_
  rintro e w1 ⟨rfl, hb1⟩
  have H1 := H0.out.below hb1
  have f0 := H1.free 0 0 rfl
  have f1 := H1.free 0 1 rfl
  have f2 := H1.free 0 2 rfl
  by_cases hz : c = 0
  · have b1 : (c != (0 : Int)) = false := by simp [hz]
    have hr := h2.out
    rw [if_pos hz] at hr
    by_cases hrg : a4 < 1 ∨ a4 > 100
    · rw [if_pos hrg] at hr
      injection hr with hr
      injection hr with hr1 hr
      injection hr with hr2 hr
      injection hr with hr3 hr4
      subst hr1 hr2 hr3 hr4
      have g0 := H1.cell 0 0 rfl rfl
      have HA := H1.set 0 0 rfl (.slice none 0 0)
      have g1 := HA.cell 0 1 rfl rfl
      have fa := HA.free 0 1 rfl
      have HB := HA.set 0 1 rfl (.int .i64 0)
      have g2 := HB.cell 0 2 rfl rfl
      have fb := HB.free 0 2 rfl
      have HE := Aside0.mk (HB.set 0 2 rfl (.slice none 0 0))
      clear HA HB
      have z0 := HE.out.cell 0 0 rfl rfl
      have z1 := HE.out.cell 0 1 rfl rfl
      have z2 := HE.out.cell 0 2 rfl rfl
      replace H1 := Aside0.mk H1
      clear hz hcc hb1 h2 nd0 nd1 nd2
      by_cases h1 : a4 < 1
      · have d1 : decide (a4 < 1) = true := decide_eq_true h1
        go_wp2
        refine ⟨rfl, .tuple #[.agg #[.slice none 0 0, .int .i64 0, .slice none 0 0], .int .i64 1], by simp [results, Try.f20, go_sem, z0, z1, z2], .slice none 0 0, .slice none 0 0, rfl, Kd.R_nil _ _ _ _ _, Kd.R_nil _ _ _ _ _, HE.out.bel⟩
      · have d1 : decide (a4 < 1) = false := decide_eq_false h1
        have d2 : decide (a4 > 100) = true := decide_eq_true (by omega)
        have d3 : decide (100 < a4) = true := decide_eq_true (by omega)
        go_wp2
        refine ⟨rfl, .tuple #[.agg #[.slice none 0 0, .int .i64 0, .slice none 0 0], .int .i64 1], by simp [results, Try.f20, go_sem, z0, z1, z2], .slice none 0 0, .slice none 0 0, rfl, Kd.R_nil _ _ _ _ _, Kd.R_nil _ _ _ _ _, HE.out.bel⟩
    · rw [if_neg hrg] at hr
      split at hr
      rotate_left
      · cases hr
      rename_i hln
      obtain ⟨m0, hini, hr⟩ := Option.bind_eq_some_iff.mp hr
      have d1 : decide (a4 < 1) = false := decide_eq_false (by omega)
      have d2 : decide (a4 > 100) = false := decide_eq_false (by omega)
      have d3 : decide (100 < a4) = false := decide_eq_false (by omega)
      have x0 := H1.cell 1 0 rfl rfl
      have x1 := H1.cell 1 1 rfl rfl
      have x2 := H1.cell 1 2 rfl rfl
      have hS0 : SF w w w.heap.size (.string a0_0) (.slice A0_1 l0_1.length c0_1) (.slice A0_2 l0_2.length c0_2) [(w.heap.size + 1, .cells #[.slice none 0 0, .int .i64 0, .slice none 0 0] 58 (0, 0)), (w.heap.size, .cells #[.string a0_0, .slice A0_1 l0_1.length c0_1, .slice A0_2 l0_2.length c0_2] 25 (0, 0))] w1 := ⟨x0, x1, x2, H1, H1.bel⟩
      have hcall := fun W (H : SF w w w.heap.size (.string a0_0) (.slice A0_1 l0_1.length c0_1) (.slice A0_2 l0_2.length c0_2) [(w.heap.size + 1, .cells #[.slice none 0 0, .int .i64 0, .slice none 0 0] 58 (0, 0)), (w.heap.size, .cells #[.string a0_0, .slice A0_1 l0_1.length c0_1, .slice A0_2 l0_2.length c0_2] 25 (0, 0))] W) => petrinetref09_Initial.calls k a0_0 A0_1 c0_1 l0_1 A0_2 c0_2 l0_2 m0 W (Kd.C_below hr0_1 H.2.2.2.1.bel) hc0_1 (Kd.C_below hr0_2 H.2.2.2.1.bel) hc0_2 hini
      replace hcall := Aside0.mk hcall
      have hlt0 := Aside0.mk H1.lt
      have hsz0 := Aside0.mk H1.size
      have hSw := Aside0.mk hS0
      replace hS0 := Aside0.mk hS0.drew
      replace H1 := Aside0.mk H1
      replace hr := Aside0.mk hr
      replace hrg := Aside0.mk hrg
      clear hz hcc hb1 h2 nd0 nd1 nd2
      go_wp2
      rename_i K hK
      have tail : ∀ (bo gF : Nat) (Ai : Option Addr) (ci : Nat) (W : World), MP w [(w.heap.size + 1, .cells #[.slice none 0 0, .int .i64 0, .slice none 0 0] 58 (0, 0)), (w.heap.size, .cells #[.string a0_0, .slice A0_1 l0_1.length c0_1, .slice A0_2 l0_2.length c0_2] 25 (0, 0))] l0_2.length (.slice Ai m0.length ci) m0 bo gF W → K { tmps := #[Value.agg #[.string a0_0, .slice A0_1 l0_1.length c0_1, .slice A0_2 l0_2.length c0_2], .slice A1 l1.length c1, .int .u64 a2, .int .i64 a3, .int .i64 a4, .pointer (some ⟨w.heap.size, 0, none⟩), undef, undef, undef, undef, .pointer (some ⟨w.heap.size + 1, 0, none⟩), .int .i64 0, .int .i64 c, .pointer (some ⟨bo, 0, none⟩), undef, undef, undef, undef, undef, .agg #[.string a0_0, .slice A0_1 l0_1.length c0_1, .slice A0_2 l0_2.length c0_2], .slice A1 l1.length c1, .int .i64 a3, .int .i64 c, .int .i64 c, .bool false, undef, undef, .int .i64 a4, .bool false, .bool false, .int .i64 a4, .bool false, .bool false, undef, .pointer (some ⟨w.heap.size, 2, none⟩), .slice A0_2 l0_2.length c0_2, .int .i64 l0_2.length, .slice (some ⟨gF, 0, none⟩) l0_2.length l0_2.length, .agg #[.string a0_0, .slice A0_1 l0_1.length c0_1, .slice A0_2 l0_2.length c0_2], .slice Ai m0.length ci, .agg #[.slice (some ⟨gF, 0, none⟩) l0_2.length l0_2.length, .int .i64 0, .slice Ai m0.length ci], undef, undef, undef, undef, undef, undef, undef, undef, undef, undef, undef, undef, undef, undef, undef, undef, undef, undef, undef, undef, undef, undef, undef, undef, undef, undef, undef, undef, undef, undef, undef, undef, undef, undef, undef, undef, undef, undef, undef, undef, undef, undef, undef, undef, undef, undef, undef, undef, undef, undef, undef, undef, undef, undef, undef, undef, undef, undef, undef, undef, undef, undef], defers := [] } W := by
        intro bo gF Ai ci W HM
        refine hK _ _ ?_
        clear hK
        obtain ⟨HX, hRm⟩ := HM
        replace HX := Aside0.mk HX
        replace hRm := Aside0.mk hRm
        clear hcall hSw hS0
        go_wp2
        go_loopg [2, 14] a4.toNat (fun kx st i wr => ∃ (j : Nat) (F M : List Int) (d s : Int) (vM : Value), st = .int .u64 s ∧ i = .int .i64 j ∧ j ≤ a4.toNat ∧ a4.toNat - j ≤ kx ∧ F.length = l0_2.length ∧ Aside0 (refManyL k a0_0 l0_1 l0_2 l1 a3 (a4.toNat - j) F M d s = some (r1, r2, r3, r4)) ∧
          Aside0 (Held w ((gF, RwO F) :: (bo, StO gF l0_2.length d vM) :: [(w.heap.size + 1, .cells #[.slice none 0 0, .int .i64 0, .slice none 0 0] 58 (0, 0)), (w.heap.size, .cells #[.string a0_0, .slice A0_1 l0_1.length c0_1, .slice A0_2 l0_2.length c0_2] 25 (0, 0))]) wr) ∧ Aside0 (Kd.R (Kd.int .i64) 3 wr w.heap.size (MQk bo gF [(w.heap.size + 1, .cells #[.slice none 0 0, .int .i64 0, .slice none 0 0] 58 (0, 0)), (w.heap.size, .cells #[.string a0_0, .slice A0_1 l0_1.length c0_1, .slice A0_2 l0_2.length c0_2] 25 (0, 0))]) vM M))
        case atStart => exact ⟨0, _, m0, 0, a2, _, rfl, rfl, Nat.zero_le _, by omega, by simp, ⟨hr.out⟩, HX, hRm⟩
        case round =>
          clear HX hRm hr
          obtain ⟨j, F, M, d, s, vM, rfl, rfl, hj, hkx, hFl, hml, HR, hRM⟩ := hrel
          by_cases hlt : (j : Int) < a4
          · have e1 : decide ((j : Int) < a4) = true := decide_eq_true hlt
            obtain ⟨q, hq⟩ : ∃ q, a4.toNat - j = q + 1 := ⟨a4.toNat - j - 1, by omega⟩
            have hq2 := Aside0.mk (show a4.toNat - (j + 1) = q by omega)
            have hj2 := Aside0.mk (show j + 1 ≤ a4.toNat by omega)
            have hjn : j ≤ 100 := by have := hrg.out; omega
            have hm2 := hml.out
            rw [hq, refManyL] at hm2
            obtain ⟨⟨xf, xm, sd, ok⟩, hrun, hm3⟩ := Option.bind_eq_some_iff.mp hm2
            have hrc := Aside0.mk (petrinetref53_Run.calls k a0_0 A0_1 c0_1 l0_1 A0_2 c0_2 l0_2 A1 c1 l1 s a3 xf xm sd ok wr (Kd.C_below hr0_1 HR.out.bel) hc0_1 (Kd.C_below hr0_2 HR.out.bel) hc0_2 (Kd.C_below hr1 HR.out.bel) hc1 hrun)
            have x0 := HR.out.cell 3 0 rfl rfl
            have x1 := HR.out.cell 3 1 rfl rfl
            have x2 := HR.out.cell 3 2 rfl rfl
            replace hm3 := Aside0.mk hm3
            replace hFl := Aside0.mk hFl
            clear hm2 hml hrun hlt hq
            go_wp2_with fail
            refine hrc.out.mono ?_
            rintro e w3 ⟨v0, v1, rfl, hR0, hS0, hb⟩
            have HP := (HR.out.below hb).push (.cells #[v0, v1, .int .u64 sd] 50)
            have hltr := Aside0.mk HR.out.lt
            have hR0' := Aside0.mk (Kd.R_alloc (bnd_of hR0) (.cells #[v0, v1, .int .u64 sd] 50))
            have hS0' := Aside0.mk (Kd.S_alloc (Kd.S_bound hS0) (.cells #[v0, v1, .int .u64 sd] 50))
            have hRM' := Aside0.mk (Kd.R_alloc (Kd.R_below hRM.out hb) (.cells #[v0, v1, .int .u64 sd] 50))
            obtain ⟨Af, cf, rfl, hcf, _⟩ := Kd.R_reads hR0
            obtain ⟨Ax, cx, rfl, hcx, _⟩ := Kd.S_reads hS0
            have hszb := hb.size
            have HP' := Aside0.mk HP
            have hC0 := Aside0.mk (show ∀ W', Chg (fun k => k = gF ∨ k = bo) (w3.alloc (.cells #[.slice Af xf.length cf, .slice Ax xm.length cx, .int .u64 sd] 50)) W' → Kd.C (Kd.int .i64) W' Af xf.length xf from fun W' hc => (Kd.R_reads' (Kd.R_step hR0'.out (fun k hk hlt => hc.block k hlt (fun e => by
              have h1 := hltr.out (gF, _) List.mem_cons_self
              have h2 := hltr.out (bo, _) (List.mem_cons_of_mem _ List.mem_cons_self)
              simp only at h1 h2; omega)))).2.2)
            have hCm := Aside0.mk (show ∀ W', Chg (fun k => k = gF ∨ k = bo) (w3.alloc (.cells #[.slice Af xf.length cf, .slice Ax xm.length cx, .int .u64 sd] 50)) W' → Kd.C (Kd.slice 3 (Kd.int .i64)) W' Ax xm.length xm from fun W' hc => (Kd.S_reads' (Kd.S_step hS0'.out (fun k hk hlt => hc.block k hlt (fun e => by
              have h1 := hltr.out (gF, _) List.mem_cons_self
              have h2 := hltr.out (bo, _) (List.mem_cons_of_mem _ List.mem_cons_self)
              have h3 := hk.2.1
              simp only at h1 h2; omega)))).2.2)
            have hcM := Aside0.mk (show ∀ W', Chg (fun k => k = gF ∨ k = bo) (w3.alloc (.cells #[.slice Af xf.length cf, .slice Ax xm.length cx, .int .u64 sd] 50)) W' → Kd.R (Kd.int .i64) 3 W' w.heap.size (MQk bo gF [(w.heap.size + 1, .cells #[.slice none 0 0, .int .i64 0, .slice none 0 0] 58 (0, 0)), (w.heap.size, .cells #[.string a0_0, .slice A0_1 l0_1.length c0_1, .slice A0_2 l0_2.length c0_2] 25 (0, 0))]) vM M from fun W' hc => Kd.R_step hRM'.out (fun k hk hlt => hc.block k hlt (fun e => by
              rcases e with e | e
              · exact hk.1 e
              · exact hk.2.1 e)))
            replace hcx := Aside0.mk hcx
            clear hrc hR0 hS0 hb hltr hR0' hS0' hRM' HP x0 x1 x2 hRM HR
            have nd0 := HP'.out.cell 0 0 rfl rfl
            have nd1 := HP'.out.cell 0 1 rfl rfl
            have nd2 := HP'.out.cell 0 2 rfl rfl
            cases ok with
            | false =>
              have hr := hm3.out
              rw [if_neg (by simp)] at hr
              injection hr with hr
              injection hr with hr1' hr
              injection hr with hr2' hr
              injection hr with hr3' hr4'
              subst hr1' hr2' hr3' hr4'
              have g0 := HP'.out.cell 3 0 rfl rfl
              have fz := HP'.out.free 3 0 rfl
              have HA := HP'.out.set 3 0 rfl (.slice none 0 0)
              have g1 := HA.cell 3 1 rfl rfl
              have fa := HA.free 3 1 rfl
              have HB := HA.set 3 1 rfl (.int .i64 0)
              have g2 := HB.cell 3 2 rfl rfl
              have fb := HB.free 3 2 rfl
              have HE := Aside0.mk (HB.set 3 2 rfl (.slice none 0 0))
              have z0 := HE.out.cell 3 0 rfl rfl
              have z1 := HE.out.cell 3 1 rfl rfl
              have z2 := HE.out.cell 3 2 rfl rfl
              clear HA HB HP' hm3 hC0 hCm hcM
              go_wp2
              refine ⟨rfl, .tuple #[.agg #[.slice none 0 0, .int .i64 0, .slice none 0 0], .int .i64 3], by simp [results, Try.f20, go_sem, z0, z1, z2], .slice none 0 0, .slice none 0 0, rfl, Kd.R_nil _ _ _ _ _, Kd.R_nil _ _ _ _ _, HE.out.bel⟩
            | true =>
              have hr := hm3.out
              rw [if_pos rfl] at hr
              split at hr
              rotate_left
              · cases hr
              rename_i hgd
              obtain ⟨hgd1, hgd2, hgd3⟩ := hgd
              obtain ⟨M2, hM2, hr⟩ := Option.bind_eq_some_iff.mp hr
              replace hgd1 := Aside0.mk hgd1
              replace hr := Aside0.mk hr
              replace hM2 := Aside0.mk hM2
              replace hszb := Aside0.mk hszb
              have hch0 := Aside0.mk (Chg.refl (fun k => k = gF ∨ k = bo) (w3.alloc (.cells #[.slice Af xf.length cf, .slice Ax xm.length cx, .int .u64 sd] 50)))
              clear hm3
              go_wp2
              go_loopg [17] xf.length (fun kq i2 w4 => ∃ (q : Nat) (F' : List Int), i2 = .int .i64 q ∧ q ≤ xf.length ∧ xf.length - q ≤ kq ∧ Aside0 (F'.length = l0_2.length) ∧ Aside0 ((xf.drop q).foldl incS F' = xf.foldl incS F) ∧
                Aside0 (Held w ((w3.heap.size, .cells #[.slice Af xf.length cf, .slice Ax xm.length cx, .int .u64 sd] 50 (0, 0)) :: (gF, RwO F') :: (bo, StO gF l0_2.length d vM) :: [(w.heap.size + 1, .cells #[.slice none 0 0, .int .i64 0, .slice none 0 0] 58 (0, 0)), (w.heap.size, .cells #[.string a0_0, .slice A0_1 l0_1.length c0_1, .slice A0_2 l0_2.length c0_2] 25 (0, 0))]) w4) ∧
                Aside0 (Chg (fun k => k = gF ∨ k = bo) (w3.alloc (.cells #[.slice Af xf.length cf, .slice Ax xm.length cx, .int .u64 sd] 50)) w4))
              case atStart => exact ⟨0, F, rfl, Nat.zero_le _, by omega, hFl, ⟨rfl⟩, HP', hch0⟩
              case round =>
                clear HP' hch0 nd0 nd1 nd2
                obtain ⟨q', F', rfl, hq1, hqk, hFl', hfold, HI, hch⟩ := hrel
                have y0 := HI.out.cell 0 0 rfl rfl
                have y1 := HI.out.cell 0 1 rfl rfl
                have b0 := HI.out.cell 2 0 rfl rfl
                by_cases hqlt : q' < xf.length
                · obtain ⟨ay, hAy, hcy1⟩ := int_at (hC0.out _ hch.out) q' hqlt
                  subst hAy
                  have hmem : xf.getD q' 0 ∈ xf := by rw [List.getD_eq_getElem?_getD, List.getElem?_eq_getElem hqlt]; exact List.getElem_mem hqlt
                  obtain ⟨ht0, ht1⟩ := hgd1.out _ hmem
                  have hdr : xf.drop q' = xf.getD q' 0 :: xf.drop (q' + 1) := by
                    rw [List.getD_eq_getElem?_getD, List.getElem?_eq_getElem hqlt]; exact List.drop_eq_getElem_cons hqlt
                  have hf2 := hfold.out
                  rw [hdr, List.foldl_cons] at hf2
                  obtain ⟨t, ht⟩ : ∃ t, xf.getD q' 0 = t := ⟨_, rfl⟩
                  rw [ht] at hcy1 ht0 ht1 hf2
                  obtain ⟨tn, rfl⟩ := Int.eq_ofNat_of_zero_le ht0
                  have htl : tn < l0_2.length := by have := hFl.out; omega
                  have f0 := HI.out.free 1 tn rfl
                  have z0 := HI.out.num 1 tn rfl (by have := hFl'.out; omega)
                  rw [incS, Int.toNat_natCast] at hf2
                  obtain ⟨x, hx⟩ : ∃ x, F'.getD tn 0 = x := ⟨_, rfl⟩
                  rw [hx] at z0 hf2
                  have HJ := Aside0.mk (HI.out.setN 1 tn rfl (wrap64 (x + 1))).drew
                  have hchJ := Aside0.mk ((hch.out.setCell (p := ⟨gF, tn, none⟩) (Or.inl rfl) (.int .i64 (wrap64 (x + 1)))).drew)
                  have hql2 := Aside0.mk (show q' + 1 ≤ xf.length from hqlt)
                  have hFlJ := Aside0.mk (show (F'.set tn (wrap64 (x + 1))).length = l0_2.length by rw [List.length_set]; exact hFl'.out)
                  replace hf2 := Aside0.mk hf2
                  clear hfold HI hch hmem hdr ht hx ht0 hFl'
                  go_wp2
                  go_region
                  all_goals go_wp2
                  go_roundg (xf.length - (q' + 1))
                  case measure => have := hql2.out; omega
                  case rel => exact ⟨q' + 1, _, by go_num, hql2.out, Nat.le_refl _, hFlJ, hf2, HJ, hchJ⟩
                · obtain rfl : q' = xf.length := by omega
                  have hfs := hfold.out
                  rw [List.drop_length, List.foldl_nil] at hfs
                  have hr := hr.out
                  rw [← hfs] at hr
                  obtain ⟨d', hd'⟩ : ∃ d', (if (xf.length : Int) < a3 then wrap64 (d + 1) else d) = d' := ⟨_, rfl⟩
                  rw [hd'] at hr
                  replace hr := Aside0.mk hr
                  have b1 := HI.out.cell 2 1 rfl rfl
                  have fb1 := HI.out.free 2 1 rfl
                  have HT := Aside0.mk (HI.out.set 2 1 rfl (.int .i64 (wrap64 (d + 1))))
                  have hchT := Aside0.mk (hch.out.setCell (p := ⟨bo, 1, none⟩) (Or.inr rfl) (.int .i64 (wrap64 (d + 1))))
                  replace hfs := Aside0.mk hfs
                  by_cases hlt2 : (xf.length : Int) < a3
                  all_goals
                    first
                    | (have e2 : decide ((xf.length : Int) < a3) = true := decide_eq_true hlt2
                       rw [if_pos hlt2] at hd'
                       subst hd'
                       have HZ := HT
                       have hchZ := hchT)
                    | (have e2 : decide ((xf.length : Int) < a3) = false := decide_eq_false hlt2
                       rw [if_neg hlt2] at hd'
                       subst hd'
                       have HZ := HI
                       have hchZ := hch)
                    clear hlt2 HT hchT HI hch hfold
                    go_wp2
                    go_loopg [18] xm.length (fun kq i2 w5 => ∃ (q : Nat) (M' : List Int) (vM' : Value), i2 = .int .i64 q ∧ q ≤ xm.length ∧ xm.length - q ≤ kq ∧ Aside0 (maxAllL k M' (xm.drop q) = some M2) ∧
                      Aside0 (Held w ((w3.heap.size, .cells #[.slice Af xf.length cf, .slice Ax xm.length cx, .int .u64 sd] 50 (0, 0)) :: (gF, RwO F') :: (bo, StO gF l0_2.length _ vM') :: [(w.heap.size + 1, .cells #[.slice none 0 0, .int .i64 0, .slice none 0 0] 58 (0, 0)), (w.heap.size, .cells #[.string a0_0, .slice A0_1 l0_1.length c0_1, .slice A0_2 l0_2.length c0_2] 25 (0, 0))]) w5) ∧
                      Aside0 (Kd.R (Kd.int .i64) 3 w5 w.heap.size (MQk bo gF [(w.heap.size + 1, .cells #[.slice none 0 0, .int .i64 0, .slice none 0 0] 58 (0, 0)), (w.heap.size, .cells #[.string a0_0, .slice A0_1 l0_1.length c0_1, .slice A0_2 l0_2.length c0_2] 25 (0, 0))]) vM' M') ∧ Aside0 (Chg (fun k => k = gF ∨ k = bo) (w3.alloc (.cells #[.slice Af xf.length cf, .slice Ax xm.length cx, .int .u64 sd] 50)) w5))
                    case atStart => exact ⟨0, M, vM, rfl, Nat.zero_le _, by omega, hM2, HZ, ⟨hcM.out _ hchZ.out⟩, hchZ⟩
                    case round =>
                      clear HZ hchZ y0 y1 b0 b1 fb1 hM2
                      obtain ⟨q2, M', vM', rfl, hq1, hqk, hM2, HI, hRM, hch⟩ := hrel
                      obtain ⟨AM, cM, rfl, hcM2, hCM⟩ := Kd.R_reads hRM.out
                      have y0 := HI.out.cell 0 0 rfl rfl
                      have y1 := HI.out.cell 0 1 rfl rfl
                      have b2 := HI.out.cell 2 2 rfl rfl
                      by_cases hqlt : q2 < xm.length
                      · obtain ⟨ay, Ar, cr, hAy, hcy1, hcr, hCr⟩ := rows2_at (hCm.out _ hch.out) q2 hqlt
                        subst hAy
                        have hm2 := hM2.out
                        rw [show xm.drop q2 = xm.getD q2 [] :: xm.drop (q2 + 1) by rw [List.getD_eq_getElem?_getD, List.getElem?_eq_getElem hqlt]; exact List.drop_eq_getElem_cons hqlt, maxAllL] at hm2
                        obtain ⟨z, hz, hm3⟩ := Option.bind_eq_some_iff.mp hm2
                        obtain ⟨x, hx⟩ : ∃ x, xm.getD q2 [] = x := ⟨_, rfl⟩
                        rw [hx] at hcy1 hcr hCr hz
                        have hcall := Aside0.mk (petrinetref04_Max.calls k AM cM M' Ar cr x z wr.drew (Kd.C_drew hCM) hcM2 (Kd.C_drew hCr) hcr hz)
                        have hql2 := Aside0.mk (show q2 + 1 ≤ xm.length from hqlt)
                        replace hm3 := Aside0.mk hm3
                        replace hcr := Aside0.mk hcr
                        replace hcM2 := Aside0.mk hcM2
                        clear hm2 hM2 hz hx hCM hCr
                        go_wp2
                        go_still_tail 7, (by kernel_rfl)
                        change wpList _ _ _ _ _ wr.drew
                        go_wp2_with fail
                        refine hcall.out.mono ?_
                        rintro e w6 ⟨vz, rfl, hRz, hbz⟩
                        obtain ⟨Az, cz, rfl, _, _⟩ := Kd.R_reads hRz
                        have hlt := HI.out.lt
                        have H6 := HI.out.drew.below hbz
                        have hch6 := hch.out.drew.below_self hbz
                        have hRz2 := Kd.R_mono (bnd_of hRz) (mqk_of (w2 := w6) (L := [(w.heap.size + 1, .cells #[.slice none 0 0, .int .i64 0, .slice none 0 0] 58 (0, 0)), (w.heap.size, .cells #[.string a0_0, .slice A0_1 l0_1.length c0_1, .slice A0_2 l0_2.length c0_2] 25 (0, 0))]) (bo := bo) (gF := gF) (B := wr.drew.heap.size) (fun p hp => hlt p (List.mem_cons_of_mem _ (List.mem_cons_of_mem _ (List.mem_cons_of_mem _ hp)))) (Or.inl (hlt (gF, _) (List.mem_cons_of_mem _ List.mem_cons_self))) (Or.inl (hlt (bo, _) (List.mem_cons_of_mem _ (List.mem_cons_of_mem _ List.mem_cons_self)))))
                        have g2 := H6.cell 2 2 rfl rfl
                        have f2 := H6.free 2 2 rfl
                        have HJ := Aside0.mk (H6.set 2 2 rfl (.slice Az z.length cz))
                        have hch7 := Aside0.mk (hch6.setCell (p := ⟨bo, 2, none⟩) (Or.inr rfl) (.slice Az z.length cz))
                        have hR7 := Aside0.mk (Kd.R_far (Kd.R_lower hRz2 (show w.heap.size ≤ wr.drew.heap.size from HI.out.size)) (p := ⟨bo, 2, none⟩) (fun k hk => hk.2.1) (.slice Az z.length cz))
                        clear hcall hlt H6 hch6 hRz hRz2 hbz HI hch hRM y0 y1 b2 hcy1
                        go_wp2
                        go_roundg (xm.length - (q2 + 1))
                        case measure => have := hql2.out; omega
                        case rel => exact ⟨q2 + 1, z, _, by go_num, hql2.out, Nat.le_refl _, hm3, HJ, hR7, hch7⟩
                      · obtain rfl : q2 = xm.length := by omega
                        have hms := hM2.out
                        rw [List.drop_length, maxAllL] at hms
                        injection hms with hms
                        subst hms
                        replace hcM2 := Aside0.mk hcM2
                        clear hCM hM2
                        go_wp2
                        go_roundg (a4.toNat - (j + 1))
                        case measure => have := hj2.out; omega
                        case rel => exact ⟨j + 1, F', M', _, sd, _, rfl, by go_num, hj2.out, Nat.le_refl _, hFl'.out, ⟨by rw [hq2.out]; exact hr.out⟩, ⟨HI.out.tail⟩, hRM⟩
          · have e1 : decide ((j : Int) < a4) = false := decide_eq_false hlt
            have hr := hml.out
            rw [show a4.toNat - j = 0 by omega, refManyL] at hr
            injection hr with hr
            injection hr with hr1' hr
            injection hr with hr2' hr
            injection hr with hr3' hr4'
            subst hr1' hr2' hr3' hr4'
            have HT := HR.out
            obtain ⟨AM, cM, rfl, hcM, _⟩ := Kd.R_reads hRM.out
            have y0 := HT.cell 1 0 rfl rfl
            have y1 := HT.cell 1 1 rfl rfl
            have y2 := HT.cell 1 2 rfl rfl
            have g0 := HT.cell 2 0 rfl rfl
            have fz := HT.free 2 0 rfl
            have HA := HT.set 2 0 rfl (.slice (some ⟨gF, 0, none⟩) l0_2.length l0_2.length)
            have g1 := HA.cell 2 1 rfl rfl
            have fa := HA.free 2 1 rfl
            have HB := HA.set 2 1 rfl (.int .i64 d)
            have g2 := HB.cell 2 2 rfl rfl
            have fb := HB.free 2 2 rfl
            have HE := Aside0.mk (HB.set 2 2 rfl (.slice AM M.length cM))
            have z0 := HE.out.cell 2 0 rfl rfl
            have z1 := HE.out.cell 2 1 rfl rfl
            have z2 := HE.out.cell 2 2 rfl rfl
            have hRe := Aside0.mk (set3_R (bo := w.heap.size + 1) (x := .slice (some ⟨gF, 0, none⟩) l0_2.length l0_2.length) (y := .int .i64 d) (z := .slice AM M.length cM) hRM.out (fun k hk => hk.2.2 _ List.mem_cons_self))
            have hrow := Aside0.mk (HE.out.row 0 rfl l0_2.length hFl.symm (by omega))
            replace hFl := Aside0.mk hFl
            clear HA HB HT hml HR hRM hlt
            go_wp2
            refine ⟨rfl, .tuple #[.agg #[.slice (some ⟨gF, 0, none⟩) l0_2.length l0_2.length, .int .i64 d, .slice AM M.length cM], .int .i64 0], by simp [results, Try.f20, go_sem, z0, z1, z2], _, _, rfl, Kd.R_reok rfl hrow.out (fun k hk => ?_), Kd.R_reok rfl hRe.out (fun k hk => ?_), HE.out.bel⟩
            · intro e
              have h1 := (hRe.out.1 k e.symm).1
              simp [Value.ownBlock] at hk
              exact h1 hk.symm
            · intro e
              have h1 := (hRe.out.1 k hk).1
              simp [Value.ownBlock] at e
              exact h1 e
      replace tail := Aside0.mk tail
      have hq0 : w.heap.size ≠ w1.heap.size ∧ w.heap.size ≠ w1.heap.size + 1 := by have := H1.out.lt _ (Held.mem (i := 0) rfl); simp at this; omega
      have hqL : (∀ p ∈ [(w.heap.size + 1, Obj.cells #[.slice none 0 0, .int .i64 0, .slice none 0 0] 58 (0, 0)), (w.heap.size, .cells #[.string a0_0, .slice A0_1 l0_1.length c0_1, .slice A0_2 l0_2.length c0_2] 25 (0, 0))], p.1 ≠ w1.heap.size) ∧ ∀ p ∈ [(w.heap.size + 1, Obj.cells #[.slice none 0 0, .int .i64 0, .slice none 0 0] 58 (0, 0)), (w.heap.size, .cells #[.string a0_0, .slice A0_1 l0_1.length c0_1, .slice A0_2 l0_2.length c0_2] 25 (0, 0))], p.1 ≠ w1.heap.size + 1 := ⟨fun p hp => by have := H1.out.lt p hp; omega, fun p hp => by have := H1.out.lt p hp; omega⟩
      have hqS : w.heap.size ≤ w1.heap.size ∧ w.heap.size ≤ w1.heap.size + 1 := by have := H1.out.size; omega
      replace hq0 := Aside0.mk hq0
      replace hqL := Aside0.mk hqL
      replace hqS := Aside0.mk hqS
      have hmk2 := print_make (P := Try.prog) 26 3 .i64 8 Try.underlying26 infoInt (by decide) l0_2.length (by omega)
      go_region_held3 (fun w' => w'.cell? ⟨w.heap.size, 0, none⟩ = some (.string a0_0) ∧ w'.cell? ⟨w.heap.size, 1, none⟩ = some (.slice A0_1 l0_1.length c0_1) ∧ w'.cell? ⟨w.heap.size, 2, none⟩ = some (.slice A0_2 l0_2.length c0_2) ∧ Held w [(w.heap.size + 1, .cells #[.slice none 0 0, .int .i64 0, .slice none 0 0] 58 (0, 0)), (w.heap.size, .cells #[.string a0_0, .slice A0_1 l0_1.length c0_1, .slice A0_2 l0_2.length c0_2] 25 (0, 0))] w' ∧ Below w.heap.size w w')
        ((first | (with_reducible exact hS0.out) | (with_reducible exact (hSw.out.alloc _).drew) | (with_reducible exact ((hSw.out.alloc _).alloc _).drew) | (with_reducible exact hS1.out) | (with_reducible exact hS1.out.alloc _) | (with_reducible exact (hS1.out.alloc _).alloc _) | (with_reducible exact ((hS1.out.set hq0.out.1 hqL.out.1 hqS.out.1 hqS.out.1 0 _).set hq0.out.1 hqL.out.1 hqS.out.1 hqS.out.1 1 _).set hq0.out.1 hqL.out.1 hqS.out.1 hqS.out.1 2 _) | (with_reducible exact ((hS1.out.set hq0.out.2 hqL.out.2 hqS.out.2 hqS.out.2 0 _).set hq0.out.2 hqL.out.2 hqS.out.2 hqS.out.2 1 _).set hq0.out.2 hqL.out.2 hqS.out.2 hqS.out.2 2 _) | (with_reducible exact (((hS1.out.alloc _).set hq0.out.1 hqL.out.1 hqS.out.1 hqS.out.1 0 _).set hq0.out.1 hqL.out.1 hqS.out.1 hqS.out.1 1 _).set hq0.out.1 hqL.out.1 hqS.out.1 hqS.out.1 2 _)))
        ((first
          | (go_at_call 12; with_reducible refine (hcall.out _ hS0.out).mono ?_; rintro e w2 ⟨vi, rfl, hRi, hbi⟩; have hS1 := Aside0.mk (hS0.out.below hbi); obtain ⟨Ai, ci, rfl, hci, hCi⟩ := Kd.R_reads hRi; replace hRi := Aside0.mk hRi; replace hbi := Aside0.mk hbi)
          | (go_at_call 12; with_reducible refine (hcall.out _ (hSw.out.alloc _).drew).mono ?_; rintro e w2 ⟨vi, rfl, hRi, hbi⟩; have hS1 := Aside0.mk ((hSw.out.alloc _).drew.below hbi); have kz := blk_below (blk_drew (blk_new w1 _)) hbi; have ko0 := fun o => blk_frozen (blk_alloc kz o) 0; have ko1 := fun o => blk_frozen (blk_alloc kz o) 1; have ko2 := fun o => blk_frozen (blk_alloc kz o) 2; have kp0 := fun o => blk_cell (blk_alloc kz o) 0; have kp1 := fun o => blk_cell (blk_alloc kz o) 1; have kp2 := fun o => blk_cell (blk_alloc kz o) 2; have kf0 := blk_frozen kz 0; have kf1 := blk_frozen kz 1; have kf2 := blk_frozen kz 2; (try (have kc0 := blk_cell kz 0; have kc1 := blk_cell kz 1; have kc2 := blk_cell kz 2)); obtain ⟨Ai, ci, rfl, hci, hCi⟩ := Kd.R_reads hRi; replace hRi := Aside0.mk hRi; replace hbi := Aside0.mk hbi)
          | (go_at_call 12; with_reducible refine (hcall.out _ ((hSw.out.alloc _).alloc _).drew).mono ?_; rintro e w2 ⟨vi, rfl, hRi, hbi⟩; have hS1 := Aside0.mk (((hSw.out.alloc _).alloc _).drew.below hbi); have kz := blk_below (blk_drew (blk_alloc (blk_new w1 _) _)) hbi; have kf0 := blk_frozen kz 0; have kf1 := blk_frozen kz 1; have kf2 := blk_frozen kz 2; (try (have kc0 := blk_cell kz 0; have kc1 := blk_cell kz 1; have kc2 := blk_cell kz 2)); have kw := blk_below (blk_drew (blk_new (w1.alloc _) _)) hbi; simp only [World.size_alloc] at kw; have kg0 := blk_frozen kw 0; have kg1 := blk_frozen kw 1; have kg2 := blk_frozen kw 2; (try (have kd0 := blk_cell kw 0; have kd1 := blk_cell kw 1; have kd2 := blk_cell kw 2)); obtain ⟨Ai, ci, rfl, hci, hCi⟩ := Kd.R_reads hRi; replace hRi := Aside0.mk hRi; replace hbi := Aside0.mk hbi)))
      · exact tail.out _ _ _ _ _ (mp1 hS1.out.2.2.2.1 hlt0.out hsz0.out kz hRi.out)
      · exact tail.out _ _ _ _ _ (mp2 hS1.out.2.2.2.1 hlt0.out hsz0.out kz kw hRi.out (by simp [World.drew]))
      · exact tail.out _ _ _ _ _ (mp3 hS1.out.2.2.2.1 hlt0.out hsz0.out hRi.out rfl)
      · exact tail.out _ _ _ _ _ (mp4 hS1.out.2.2.2.1 hlt0.out hsz0.out hRi.out rfl)
      · exact tail.out _ _ _ _ _ (mp5 hS1.out.2.2.2.1 hlt0.out hsz0.out kz kw hRi.out (by simp [World.drew]))
      · exact tail.out _ _ _ _ _ (mp6 hS1.out.2.2.2.1 hlt0.out hsz0.out kz hRi.out (by simp [World.drew]))
  · have b1 : (c != (0 : Int)) = true := by simp [hz]
    have hr := h2.out
    rw [if_neg hz] at hr
    injection hr with hr
    injection hr with hr1 hr
    injection hr with hr2 hr
    injection hr with hr3 hr4
    subst hr1 hr2 hr3 hr4
    have g0 := H1.cell 0 0 rfl rfl
    have HA := H1.set 0 0 rfl (.slice none 0 0)
    have g1 := HA.cell 0 1 rfl rfl
    have fa := HA.free 0 1 rfl
    have HB := HA.set 0 1 rfl (.int .i64 0)
    have g2 := HB.cell 0 2 rfl rfl
    have fb := HB.free 0 2 rfl
    have HE := Aside0.mk (HB.set 0 2 rfl (.slice none 0 0))
    clear HA HB
    have z0 := HE.out.cell 0 0 rfl rfl
    have z1 := HE.out.cell 0 1 rfl rfl
    have z2 := HE.out.cell 0 2 rfl rfl
    replace H1 := Aside0.mk H1
    clear hz hcc hb1 h2 nd0 nd1 nd2
    go_wp2
    refine ⟨rfl, .tuple #[.agg #[.slice none 0 0, .int .i64 0, .slice none 0 0], .int .i64 c], by simp [results, Try.f20, go_sem, z0, z1, z2], .slice none 0 0, .slice none 0 0, rfl, Kd.R_nil _ _ _ _ _, Kd.R_nil _ _ _ _ _, HE.out.bel⟩

end Go.Proofs.Yteaimaafahpamaa.Hy
