/- By hand (sim_ref): a part of this seat's proofs. -/
import Derived.Test.YteaimaafahpamaaM3
import Derived.Test.YteaimaafahpamaaXSimPure1
import Derived.Test.YteaimaafahpamaaH18
import Derived.Test.YteaimaafahpamaaH22
import Derived.Test.YteaimaafahpamaaH27
import Derived.Test.YteaimaafahpamaaXRef
import Derived.Deep.LoopGhost
namespace Go.Proofs.Yteaimaafahpamaa.Hy
open Go.RowKit Go.Shelf Go.Proofs.YteaimaafahpamaaW.PrintWords Go.Proofs.YteaimaafahpamaaW.PrintLast Go.Proofs.YteaimaafahpamaaW.PrintMore
set_option linter.unusedVariables false
set_option linter.unusedSimpArgs false
attribute [local go_sem] Oper.semAt_some
/-! ### petrinetref53.Run -/
def refRunL (k : Nat) (nm : ByteArray) (ps : List S65) (ts : List S68) (ws : List Int) : Nat → List Int → Int → List Int → List (List Int) → Option (List Int × List (List Int) × Int × Bool)
  | 0, _, s, F, MM => some (F, MM, s, true)
  | j + 1, m, s, F, MM => (petrinetref11_Fires.f k nm ps ts m).bind fun may => if (∀ t ∈ may, 0 ≤ t ∧ t < (ws.length : Int)) ∧ may.length ≤ 1000000 then (if smayL ws may = 0 then some (F, MM, s, true) else (petrinetref52_Choose.f k s (wmayL ws may)).bind fun z => (petrinetref11_After.f nm ps ts m z.1).bind fun y => if y.2 = true then refRunL k nm ps ts ws j y.1 z.2 (F ++ [z.1]) (MM ++ [y.1]) else some ([], [], 0, false)) else none
theorem refRunL_mono (nm : ByteArray) (ps : List S65) (ts : List S68) (ws : List Int) (k : Nat) : ∀ (j : Nat) (m : List Int) (s : Int) (F : List Int) (MM : List (List Int)), LeO (refRunL k nm ps ts ws j m s F MM) (refRunL (k + 1) nm ps ts ws j m s F MM) := by
  intro j
  induction j with
  | zero => intro m s F MM; exact LeO.refl _
  | succ j ih => intro m s F MM; exact LeO.bind (petrinetref11_Fires.mono _ _ _ _ _) (fun z => LeO.ite (LeO.ite (LeO.refl _) (LeO.bind (petrinetref52_Choose.mono _ _ _) (fun z => LeO.bind (LeO.refl _) (fun y => LeO.ite (ih _ _ _ _) (LeO.refl _))))) (LeO.refl _))
def petrinetref53_Run.f (k : Nat) (a0_0 : ByteArray) (l0_1 : List (S65)) (l0_2 : List (S68)) (l1 : List Int) (a2 : Int) (a3 : Int) : Option (List Int × (List (List Int)) × Int × Bool) :=
  (petrinetref09_Initial.f k a0_0 l0_1 l0_2).bind fun m0 => if a3 ≤ 1000000 ∧ l1.length ≤ 1000000 then refRunL k a0_0 l0_1 l0_2 l1 a3.toNat m0 a2 [] [m0] else none
theorem petrinetref53_Run.mono : ∀ a0 a1 a2 a3 a4 a5 k, LeO (petrinetref53_Run.f k a0 a1 a2 a3 a4 a5) (petrinetref53_Run.f (k + 1) a0 a1 a2 a3 a4 a5) := by
  intro a0 a1 a2 a3 a4 a5 k
  exact LeO.bind (petrinetref09_Initial.mono _ _ _ _) (fun m0 => LeO.ite (refRunL_mono _ _ _ _ _ _ _ _ _ _) (LeO.refl _))
theorem OutT.grown {W W' : World} {B : Nat} {v : Value} {ps : List (Value × List Int)} (h : OutT W B v ps) {row : Option Nat} (hg : W.grownBy W' row) (h1 : v.ownBlock = none ∨ v.ownBlock ≠ row) (h2 : ∀ p ∈ ps, ∀ k, row = some k → some k ≠ p.1.ownBlock) : OutT W' B v ps :=
  ⟨own_other h.own hg h1, fun p hp => Kd.R_grown2 (h.el p hp) rfl hg (h2 p hp), h.ap⟩
theorem OutT.one {W : World} {B : Nat} {u : Value} {x : List Int} (hu : (Kd.int .i64).R 3 W B (fun _ => True) u x) (hB : B ≤ W.heap.size) : OutT (W.alloc (.cells #[u] 26)) B (.slice (some ⟨W.heap.size, 0, none⟩) 1 1) [(u, x)] := by
  refine ⟨?_, fun p hp => ?_, List.pairwise_singleton _ _⟩
  · have := own_lit_of (enc := id) W B 26 [u] hB (by simp)
    simpa [encs] using this
  · rw [List.mem_singleton.1 hp]
    exact Kd.R_below hu (below_alloc (Below.refl _ _) _)
theorem R_farT {W : World} {B : Nat} {u : Value} {x : List Int} (hu : (Kd.int .i64).R 3 W B (fun _ => True) u x) {g t : Nat} {cs : Array Value} (hg : W.heap[g]? = some (.cells cs t (0, 0))) (h1 : t ≠ 3) (j : Nat) (z : Value) : (Kd.int .i64).R 3 (W.setCell ⟨g, j, none⟩ z) B (fun _ => True) u x := by
  refine Kd.R_mono (Kd.R_far (Kd.R_mono (Kd.R_bound hu) (ok' := fun k => k ≠ g) (fun k hk e => ?_)) (p := ⟨g, j, none⟩) (fun k hk => hk) z) (fun _ _ => trivial)
  obtain ⟨_, _, _, q, hq, cells, hc⟩ := hk
  subst e
  rw [hg] at hc
  injection hc with hc
  injection hc with _ hc
  simp [Kd.int, Kd.scalar] at hq
  exact h1 (hc.trans hq)
theorem own_setH {w W : World} {L : List (Nat × Obj)} {B n : Nat} {e t g : Nat} {v : Value} {xs : List Value} {cs : Array Value} (hF : W.ownsRow B e 1 v n xs) (H : Held w L W) (i : Nat) (hi : L[i]? = some (g, .cells cs t (0, 0))) (ht : e ≠ t) (j : Nat) (u : Value) : (W.setCell ⟨g, j, none⟩ u).ownsRow B e 1 v n xs :=
  own_setCell hF (own_ne hF (H.blk i hi) ht) u
def runH1 (b ob : Nat) (nm : ByteArray) (A1 : Option Addr) (n1 c1 : Nat) (A2 : Option Addr) (n2 c2 : Nat) (vF vM : Value) (s : Int) : List (Nat × Obj) :=
  [(ob, .cells #[vF, vM, .int .u64 s] 50 (0, 0)), (b + 1, .cells #[.slice none 0 0, .slice none 0 0, .int .u64 0] 50 (0, 0)), (b, .cells #[.string nm, .slice A1 n1 c1, .slice A2 n2 c2] 25 (0, 0))]
set_option maxRecDepth 100000 in
set_option maxHeartbeats 8000000 in
theorem petrinetref53_Run.calls (k : Nat) (a0_0 : ByteArray) (A0_1 : Option Addr) (c0_1 : Nat) (l0_1 : List (S65)) (A0_2 : Option Addr) (c0_2 : Nat) (l0_2 : List (S68)) (A1 : Option Addr) (c1 : Nat) (l1 : List Int) (a2 : Int) (a3 : Int) (r1 : List Int) (r2 : List (List Int)) (r3 : Int) (r4 : Bool) (w : World) (hr0_1 : Kd.C k65 w A0_1 l0_1.length l0_1) (hc0_1 : l0_1.length ≤ c0_1) (hr0_2 : Kd.C k68 w A0_2 l0_2.length l0_2) (hc0_2 : l0_2.length ≤ c0_2) (hr1 : Kd.C (Kd.int .i64) w A1 l1.length l1) (hc1 : l1.length ≤ c1) (h : petrinetref53_Run.f k a0_0 l0_1 l0_2 l1 a2 a3 = some (r1, r2, r3, r4)) :
    Calls Try.prog 17 #[.agg #[.string a0_0, .slice A0_1 l0_1.length c0_1, .slice A0_2 l0_2.length c0_2], .slice A1 l1.length c1, .int .u64 a2, .int .i64 a3] w fun e w' => ∃ v0_ v1_ : Value, e = .returned (.tuple #[.agg #[v0_, v1_, .int .u64 r3], .bool r4]) ∧ Kd.R (Kd.int .i64) 3 w' w.heap.size (fun _ => True) v0_ r1 ∧ Kd.S (Kd.slice 3 (Kd.int .i64)) 26 w' w.heap.size (fun k_ => some k_ ≠ (v0_ : Value).ownBlock) v1_ r2 ∧ Below w.heap.size w w' := by
  have H0 := ((Held.refl w).push (.cells #[.string a0_0, .slice A0_1 l0_1.length c0_1, .slice A0_2 l0_2.length c0_2] 25)).push (.cells #[.slice none 0 0, .slice none 0 0, .int .u64 0] 50)
  simp only [World.size_alloc] at H0
  obtain ⟨m0, hini, h2⟩ := Option.bind_eq_some_iff.mp h
  have hcc := Aside0.mk (petrinetref09_Initial.calls k a0_0 A0_1 c0_1 l0_1 A0_2 c0_2 l0_2 m0 _ (Kd.C_below hr0_1 H0.bel) hc0_1 (Kd.C_below hr0_2 H0.bel) hc0_2 hini)
  split at h2
  rotate_left
  · cases h2
  rename_i hst
  obtain ⟨hst, hwl⟩ := hst
  have nd0 := H0.cell 1 0 rfl rfl
  have nd1 := H0.cell 1 1 rfl rfl
  have nd2 := H0.cell 1 2 rfl rfl
  replace H0 := Aside0.mk H0
  replace h2 := Aside0.mk h2
  clear h hini
  go_enter Try.func17, Try.ntmps17
  go_wp2_with fail
  refine hcc.out.mono ?_
  rintro e w1 ⟨v, rfl, hR, hb1⟩
  have H1 := H0.out.below hb1
  obtain ⟨Am, cm, rfl, hcm, _⟩ := Kd.R_reads hR
  have hsz1 : w.heap.size ≤ w1.heap.size := H1.size
  have hO0 := OutT.one (Kd.R_lower hR (show w.heap.size ≤ _ by simp; omega)) hsz1
  have H2 := (H1.push (.cells #[.slice Am m0.length cm] 26)).tail.push (.cells #[.slice none 0 0, .slice (some ⟨w1.heap.size, 0, none⟩) 1 1, .int .u64 a2] 50)
  simp only [World.size_alloc] at H2
  obtain ⟨ob, hob⟩ : ∃ ob, w1.heap.size + 1 = ob := ⟨_, rfl⟩
  have hO1 := hO0.below (below_alloc (Below.refl _ _) (.cells #[.slice none 0 0, .slice (some ⟨w1.heap.size, 0, none⟩) 1 1, .int .u64 a2] 50))
  rw [hob] at H2
  replace H1 := Aside0.mk H1
  replace hO1 := Aside0.mk hO1
  replace H2 := Aside0.mk H2
  replace hob := Aside0.mk hob
  clear hcc hb1 nd0 nd1 nd2 hR hO0
  go_wp2
  rw [hob.out]
  go_loopg [10, 12] a3.toNat (fun kx v i wr => ∃ (j : Nat) (s : Int) (m F : List Int) (vF vM : Value) (pm : List (Value × List Int)) (Am : Option Addr) (cm : Nat), v = .slice Am m.length cm ∧ i = .int .i64 j ∧ j ≤ a3.toNat ∧ a3.toNat - j ≤ kx ∧ m.length ≤ cm ∧ F.length ≤ j ∧ pm.length ≤ j ∧
    Aside0 (refRunL k a0_0 l0_1 l0_2 l1 (a3.toNat - j) m s F (pm.map (·.2) ++ [m]) = some (r1, r2, r3, r4)) ∧ Aside0 (Held w (runH1 w.heap.size ob a0_0 A0_1 l0_1.length c0_1 A0_2 l0_2.length c0_2 vF vM s) wr) ∧
    Aside0 (wr.ownsRow w.heap.size 3 1 vF F.length (nums .i64 F)) ∧ Aside0 (OutT wr w.heap.size vM (pm ++ [(.slice Am m.length cm, m)])) ∧ Aside0 (∀ p ∈ pm ++ [(.slice Am m.length cm, m)], NeRow p.1 vF))
  case atStart =>
    exact ⟨0, a2, m0, [], .slice none 0 0, _, [], Am, cm, rfl, rfl, Nat.zero_le _, by omega, hcm, by simp, by simp, ⟨h2.out⟩, H2, ⟨own_nil _ _ _ _⟩, hO1, ⟨fun p hp k hk hk2 => by simp [Value.ownBlock] at hk2⟩⟩
  case round =>
    clear h2 H2 hO1 H1 hcm
    obtain ⟨j, s, m, F, vF, vM, pm, Am, cm, rfl, rfl, hj, hkx, hcm, hFl, hpl, hml, HR, hF, hO, hne⟩ := hrel
    have nd0 := HR.out.cell 2 0 rfl rfl
    have nd1 := HR.out.cell 2 1 rfl rfl
    have nd2 := HR.out.cell 2 2 rfl rfl
    by_cases hlt : (j : Int) < a3
    · have e1 : decide ((j : Int) < a3) = true := decide_eq_true hlt
      obtain ⟨q, hq⟩ : ∃ q, a3.toNat - j = q + 1 := ⟨a3.toNat - j - 1, by omega⟩
      have hq2 := Aside0.mk (show a3.toNat - (j + 1) = q by omega)
      have hj2 := Aside0.mk (show j + 1 ≤ a3.toNat by omega)
      have hjn : j < 1000000 := by omega
      have hm2 := hml.out
      rw [hq, refRunL] at hm2
      obtain ⟨may, hmay, hm3⟩ := Option.bind_eq_some_iff.mp hm2
      obtain ⟨A', c', he', _, hCm⟩ := Kd.R_reads (hO.out.el (.slice Am m.length cm, m) (by simp))
      injection he' with e1' e2' e3'
      subst e1'
      clear e2' e3'
      have hcf := Aside0.mk (petrinetref11_Fires.calls k a0_0 A0_1 c0_1 l0_1 A0_2 c0_2 l0_2 Am cm m may wr (Kd.C_below hr0_1 HR.out.bel) hc0_1 (Kd.C_below hr0_2 HR.out.bel) hc0_2 hCm hcm hmay)
      split at hm3
      rotate_left
      · cases hm3
      rename_i hgd
      obtain ⟨hgd1, hgd2⟩ := hgd
      replace hgd1 := Aside0.mk hgd1
      replace hm3 := Aside0.mk hm3
      clear hm2 hmay hCm hml hlt hq
      go_wp2_with fail
      refine hcf.out.mono ?_
      rintro e wf ⟨vy, rfl, hRy, hbf⟩
      obtain ⟨Ay, cy, rfl, hcy, hCy⟩ := Kd.R_reads hRy
      have HF := HR.out.below hbf
      have hF1 := Aside0.mk (pw_own_below hF.out hbf)
      have hO1 := Aside0.mk (hO.out.below hbf)
      have HG : Held w ((wf.heap.size, .cells (nums .i64 (List.replicate l1.length 0)).toArray 3 (0, 0)) :: runH1 w.heap.size ob a0_0 A0_1 l0_1.length c0_1 A0_2 l0_2.length c0_2 vF vM s) (wf.alloc (.cells (madeCells #[.int .i64 0] l1.length) 3)) := by
        have := HF.push (.cells (madeCells #[.int .i64 0] l1.length) 3)
        rw [made_nums] at this ⊢
        exact this
      have hmk := print_make (P := Try.prog) 26 3 .i64 8 Try.underlying26 infoInt (by decide) l1.length (by omega)
      have hbg := below_alloc (Below.refl wf.heap.size wf) (.cells (madeCells #[.int .i64 0] l1.length) 3)
      have hmx := Kd.C_max hCy
      replace HG := Aside0.mk HG
      replace HF := Aside0.mk HF
      replace hCy := Aside0.mk hCy
      replace hbg := Aside0.mk hbg
      clear hcf hRy hbf hF hO HR nd0 nd1 nd2
      go_wp2
      go_loopg [15, 16] may.length (fun ky sv kv wr => ∃ (q : Nat) (wv : List Int) (sm : Int), sv = .int .i64 sm ∧ kv = .int .i64 q ∧ q ≤ may.length ∧ may.length - q ≤ ky ∧ wv.length = l1.length ∧ Aside0 ((may.drop q).foldl (fun w t => w.set t.toNat (rd l1 t)) wv = wmayL l1 may) ∧ Aside0 ((may.drop q).foldl (fun s t => wrap64 (s + rd l1 t)) sm = smayL l1 may) ∧
        Aside0 (Held w ((wf.heap.size, .cells (nums .i64 wv).toArray 3 (0, 0)) :: runH1 w.heap.size ob a0_0 A0_1 l0_1.length c0_1 A0_2 l0_2.length c0_2 vF vM s) wr) ∧ Aside0 (Below wf.heap.size wf wr))
      case atStart => exact ⟨0, _, 0, rfl, rfl, Nat.zero_le _, by omega, by simp, ⟨rfl⟩, ⟨rfl⟩, HG, hbg⟩
      case round =>
        clear hbg HG hmk
        obtain ⟨q', wv, sm, rfl, rfl, hqm, hky, hwl, hw1, hs1, HI, hBI⟩ := hrel
        by_cases hqlt : q' < may.length
        · obtain ⟨ay, hAy, hcy1⟩ := int_at (Kd.C_below hCy.out hBI.out) q' hqlt
          subst hAy
          have hmem : may.getD q' 0 ∈ may := by rw [List.getD_eq_getElem?_getD, List.getElem?_eq_getElem hqlt]; exact List.getElem_mem hqlt
          obtain ⟨ht0, ht1⟩ := hgd1.out _ hmem
          have hdr : may.drop q' = may.getD q' 0 :: may.drop (q' + 1) := by
            rw [List.getD_eq_getElem?_getD, List.getElem?_eq_getElem hqlt]; exact List.drop_eq_getElem_cons hqlt
          have hw2 := hw1.out
          have hs2 := hs1.out
          rw [hdr, List.foldl_cons] at hw2 hs2
          obtain ⟨t, ht⟩ : ∃ t, may.getD q' 0 = t := ⟨_, rfl⟩
          rw [ht] at hcy1 ht0 ht1 hw2 hs2
          obtain ⟨tn, rfl⟩ := Int.eq_ofNat_of_zero_le ht0
          have htl : tn < l1.length := by omega
          obtain ⟨a1, hA1, hcw⟩ := int_at (Kd.C_below hr1 HI.out.bel) tn htl
          subst hA1
          have f0 := HI.out.free 0 tn rfl
          have y0 := HI.out.num 0 tn rfl (by omega)
          rw [show rd l1 (tn : Int) = l1.getD tn 0 by simp [rd], Int.toNat_natCast] at hw2
          rw [show rd l1 (tn : Int) = l1.getD tn 0 by simp [rd]] at hs2
          obtain ⟨x, hx⟩ : ∃ x, l1.getD tn 0 = x := ⟨_, rfl⟩
          rw [hx] at hcw hw2 hs2
          have HJ := (HI.out.setN 0 tn rfl x).drew
          have hBJ := hBI.out.trans ((((Chg.refl (fun k => k = wf.heap.size) wr).setCell (p := ⟨wf.heap.size, tn, none⟩) rfl (.int .i64 x)).drew).below (hBI.out.size) (fun k hk => by omega))
          obtain ⟨ay2, hAy2, hcy2⟩ := int_at (Kd.C_below hCy.out hBJ) q' hqlt
          obtain ⟨a12, hA12, hcw2⟩ := int_at (Kd.C_below hr1 HJ.bel) tn htl
          injection hAy2 with hAy2
          injection hA12 with hA12
          subst hAy2 hA12
          rw [ht] at hcy2
          rw [hx] at hcw2
          have hql2 := Aside0.mk (show q' + 1 ≤ may.length from hqlt)
          have hwl2 : (wv.set tn x).length = l1.length := by rw [List.length_set]; exact hwl
          replace HJ := Aside0.mk HJ
          replace hBJ := Aside0.mk hBJ
          replace hw2 := Aside0.mk hw2
          replace hs2 := Aside0.mk hs2
          replace hwl2 := Aside0.mk hwl2
          clear hw1 hs1 HI hBI hmem hdr ht hx ht0
          go_wp2
          go_region
          all_goals go_wp2
          go_roundg (may.length - (q' + 1))
          case measure => have := hql2.out; omega
          case rel => exact ⟨q' + 1, wv.set tn x, _, rfl, by go_num, hql2.out, Nat.le_refl _, hwl2.out, hw2, hs2, HJ, hBJ⟩
        · obtain rfl : q' = may.length := by omega
          have hws := hw1.out
          have hss := hs1.out
          rw [List.drop_length, List.foldl_nil] at hws hss
          subst hws hss
          have hOx := hO1.out.below hBI.out
          have hFx := pw_own_below hF1.out hBI.out
          by_cases hz : smayL l1 may = 0
          · have b1 : (smayL l1 may == (0 : Int)) = true := by simp [hz]
            have hr := hm3.out
            rw [if_pos hz] at hr
            injection hr with hr
            injection hr with hr1' hr
            injection hr with hr2' hr
            injection hr with hr3' hr4'
            subst hr1' hr2' hr3' hr4'
            have HT := HI.out.tail
            obtain ⟨AF, cF, hvF⟩ := own_slice hFx
            obtain ⟨AM, cM, hvM⟩ := hOx.slice
            subst hvF hvM
            have y0 := HT.cell 0 0 rfl rfl
            have y1 := HT.cell 0 1 rfl rfl
            have y2 := HT.cell 0 2 rfl rfl
            have g0 := HT.cell 1 0 rfl rfl
            have fz := HT.free 1 0 rfl
            have HA := HT.set 1 0 rfl (.slice AF F.length cF)
            have g1 := HA.cell 1 1 rfl rfl
            have fa := HA.free 1 1 rfl
            have HB := HA.set 1 1 rfl (.slice AM (pm ++ [(Value.slice Am m.length cm, m)]).length cM)
            have g2 := HB.cell 1 2 rfl rfl
            have fb := HB.free 1 2 rfl
            have HE := Aside0.mk (HB.set 1 2 rfl (.int .u64 s))
            have z0 := HE.out.cell 1 0 rfl rfl
            have z1 := HE.out.cell 1 1 rfl rfl
            have z2 := HE.out.cell 1 2 rfl rfl
            have hF_1 := own_setH hFx HT (t := 50) 1 rfl (by decide) 0 (.slice AF F.length cF)
            have hF_2 := own_setH hF_1 HA (t := 50) 1 rfl (by decide) 1 (.slice AM (pm ++ [(Value.slice Am m.length cm, m)]).length cM)
            have hFe := Aside0.mk (own_setH hF_2 HB (t := 50) 1 rfl (by decide) 2 (.int .u64 s))
            have hO_1 := hOx.far (t := 50) (HT.blk 1 rfl) (by decide) (by decide) 0 (.slice AF F.length cF)
            have hO_2 := hO_1.far (t := 50) (HA.blk 1 rfl) (by decide) (by decide) 1 (.slice AM (pm ++ [(Value.slice Am m.length cm, m)]).length cM)
            have hOe := Aside0.mk (hO_2.far (t := 50) (HB.blk 1 rfl) (by decide) (by decide) 2 (.int .u64 s))
            have hne2 := Aside0.mk (fun k (hk : (Value.slice AM (pm ++ [(Value.slice Am m.length cm, m)]).length cM).ownBlock = some k) (hk2 : some k = (Value.slice AF F.length cF).ownBlock) => (own_type_ne hOe.out.own hFe.out (by decide)).elim (fun h => by rw [h] at hk; cases hk) (fun h => h (hk.trans hk2)))
            obtain ⟨lenM, hlM⟩ : ∃ n, (pm ++ [(Value.slice Am m.length cm, m)]).length = n := ⟨_, rfl⟩
            rw [hlM] at hOe hFe hne2 HE y1 g2 fb z0 z1 z2
            replace hlM := Aside0.mk hlM
            clear hz HA HB HT hF_1 hF_2 hO_1 hO_2 hw1 hs1 HI hBI hF1 hO1 HF hCy hm3 hFx hOx
            go_wp2
            refine ⟨rfl, .tuple #[.agg #[.slice AF F.length cF, .slice AM lenM cM, .int .u64 s], .bool true], by simp [results, Try.f17, go_sem, z0, z1, z2], _, _, rfl, Kd.R_of_own hFe.out (fun _ _ => trivial), ?_, HE.out.bel⟩
            have := hOe.out.shareOk (fun k_ => some k_ ≠ (Value.slice AF F.length cF).ownBlock) (fun k hk hk2 => hne2.out k hk hk2) (fun p hp k hk hk2 => hne.out p hp k hk hk2.symm)
            rw [List.map_append] at this
            exact this
          · have b1 : (smayL l1 may == (0 : Int)) = false := by simp [hz]
            have hr := hm3.out
            rw [if_neg hz] at hr
            obtain ⟨⟨t, nx⟩, hcho, hr2⟩ := Option.bind_eq_some_iff.mp hr
            obtain ⟨⟨a, ok⟩, haf, hr3⟩ := Option.bind_eq_some_iff.mp hr2
            have hCw := (Kd.R_reads' (HI.out.row 0 rfl (wmayL l1 may).length rfl (by omega))).2.2
            have hcc := petrinetref52_Choose.calls k s (some ⟨wf.heap.size, 0, none⟩) l1.length (wmayL l1 may) t nx wr hCw (by omega) hcho
            rw [hwl] at hcc
            replace hcc := Aside0.mk hcc
            have y2 := HI.out.cell 1 2 rfl rfl
            have HT := HI.out.tail
            replace HT := Aside0.mk HT
            replace hr3 := Aside0.mk hr3
            replace haf := Aside0.mk haf
            replace hOx := Aside0.mk hOx
            replace hFx := Aside0.mk hFx
            clear hz hw1 hs1 hBI hF1 hO1 HF hCy hm3 hr hr2 hcho hCw hwl hgd2 hmx hgd1 HI
            go_wp2_with fail
            refine hcc.out.mono ?_
            rintro e W3 ⟨rfl, hd3⟩
            have H3 := HT.out.below hd3.below
            have hO3 := hOx.out.below hd3.below
            have hF3 := pw_own_below hFx.out hd3.below
            obtain ⟨A', c', he', _, hCm⟩ := Kd.R_reads (hO3.el (.slice Am m.length cm, m) (by simp))
            injection he' with e1' e2' e3'
            subst e1'
            clear e2' e3'
            have haf2 := Aside0.mk (petrinetref11_After.calls a0_0 A0_1 c0_1 l0_1 A0_2 c0_2 l0_2 Am cm m t a ok W3 (Kd.C_below hr0_1 H3.bel) hc0_1 (Kd.C_below hr0_2 H3.bel) hc0_2 hCm hcm haf.out)
            have nd0 := H3.cell 2 0 rfl rfl
            have nd1 := H3.cell 2 1 rfl rfl
            have nd2 := H3.cell 2 2 rfl rfl
            replace H3 := Aside0.mk H3
            replace hO3 := Aside0.mk hO3
            replace hF3 := Aside0.mk hF3
            clear hcc hd3 HT hOx hFx y2 hCm
            go_wp2_with fail
            refine haf2.out.mono ?_
            rintro e W4 ⟨va, rfl, hRa, hb4⟩
            have H4 := H3.out.below hb4
            have hO4 := hO3.out.below hb4
            have hF4 := pw_own_below hF3.out hb4
            obtain ⟨Aa, ca, rfl, hca, _⟩ := Kd.R_reads hRa
            have hsz3 : w.heap.size ≤ W3.heap.size := H3.out.size
            have hfrA : ∀ q, (Value.slice Aa a.length ca).ownBlock = some q → W3.heap.size ≤ q ∧ q < W4.heap.size := fun q hq => ⟨((Kd.R_bound hRa).1 q hq).2.1, ((Kd.R_bound hRa).1 q hq).2.2.1⟩
            have hltF : ∀ q, vF.ownBlock = some q → q < W3.heap.size := fun q hq => own_lt hF3.out q hq
            have hltM : ∀ p ∈ pm ++ [(Value.slice Am m.length cm, m)], ∀ q, p.1.ownBlock = some q → q < W3.heap.size := fun p hp q hq => hO3.out.lt hp hq
            have hRa := Kd.R_lower hRa hsz3
            clear haf2 nd0 nd1 nd2 H3 hO3 hF3
            cases ok with
            | false =>
              have hr := hr3.out
              rw [if_neg (by simp)] at hr
              injection hr with hr
              injection hr with hr1' hr
              injection hr with hr2' hr
              injection hr with hr3' hr4'
              subst hr1' hr2' hr3' hr4'
              have g0 := H4.cell 1 0 rfl rfl
              have fz := H4.free 1 0 rfl
              have HA := H4.set 1 0 rfl (.slice none 0 0)
              have g1 := HA.cell 1 1 rfl rfl
              have fa := HA.free 1 1 rfl
              have HB := HA.set 1 1 rfl (.slice none 0 0)
              have g2 := HB.cell 1 2 rfl rfl
              have fb := HB.free 1 2 rfl
              have HE := Aside0.mk (HB.set 1 2 rfl (.int .u64 0))
              have z0 := HE.out.cell 1 0 rfl rfl
              have z1 := HE.out.cell 1 1 rfl rfl
              have z2 := HE.out.cell 1 2 rfl rfl
              clear HA HB H4 hO4 hF4 hRa hb4 hr3 haf
              go_wp2
              refine ⟨rfl, .tuple #[.agg #[.slice none 0 0, .slice none 0 0, .int .u64 0], .bool false], by simp [results, Try.f17, go_sem, z0, z1, z2], _, _, rfl, Kd.R_nil _ _ _ _ _, Kd.S_nil _ _ _ _ _, HE.out.bel⟩
            | true =>
              have hr := hr3.out
              rw [if_pos rfl] at hr
              replace hr := Aside0.mk hr
              -- the state
              have s0 := H4.cell 0 2 rfl rfl
              have s1 := H4.free 0 2 rfl
              have H5 := H4.set 0 2 rfl (.int .u64 nx)
              have hO5 := hO4.far (t := 50) (H4.blk 0 rfl) (by decide) (by decide) 2 (.int .u64 nx)
              have hF5 := own_setH hF4 H4 (t := 50) 0 rfl (by decide) 2 (.int .u64 nx)
              have hRa5 := R_farT hRa (t := 50) (H4.blk 0 rfl) (by decide) 2 (.int .u64 nx)
              have hsz5 : (W4.setCell ⟨ob, 2, none⟩ (.int .u64 nx)).heap.size = W4.heap.size := by simp [World.setCell]
              have t0 := H5.cell 0 0 rfl rfl
              obtain ⟨AF, cF, hvF⟩ := own_slice hF5
              obtain ⟨AM, cM, hvM⟩ := hO5.slice
              obtain ⟨lenM, hlenM⟩ : ∃ n, (pm ++ [(Value.slice Am m.length cm, m)]).length = n := ⟨_, rfl⟩
              rw [hlenM] at hvM
              subst hvF hvM
              replace hlenM := Aside0.mk hlenM
              have hsz34 := hb4.size
              have hB5 := H5.bel
              have hszw := H5.size
              have hFl2 := Aside0.mk hFl
              replace H5 := Aside0.mk H5
              replace hO5 := Aside0.mk hO5
              replace hF5 := Aside0.mk hF5
              replace hRa5 := Aside0.mk hRa5
              replace hfrA := Aside0.mk hfrA
              replace hltF := Aside0.mk hltF
              replace hltM := Aside0.mk hltM
              replace hB5 := Aside0.mk hB5
              clear H4 hO4 hF4 hRa hr3 haf
              have hl1 := Aside0.mk (show (pm ++ [(Value.slice Am m.length cm, m)]).length ≤ 1000000 by simp; omega)
              have hMl := Aside0.mk (show ((pm ++ [(Value.slice Am m.length cm, m)]).map (·.1)).length = (pm ++ [(Value.slice Am m.length cm, m)]).length from List.length_map _)
              go_wp2_with (at_builtin; first
                | (refine print_append_num (w0 := w) w.heap.size rfl (.tmp 90) (.tmp 92) 26 3 .i64 8 rfl Try.underlying26 infoInt (by decide) (.slice AF F.length cF) F t rfl (by rw [hsz5]; rfl) hF5.out hB5.out hszw (by omega) ?_
                   intro v1 w5 ho1 hb1 hg1 hat1
                   obtain ⟨Av1, cv1, hv1⟩ := own_slice ho1
                   obtain ⟨len1, hlen1⟩ : ∃ n, (F ++ [t]).length = n := ⟨_, rfl⟩
                   rw [hlen1] at ho1 hv1
                   subst hv1
                   have H6 := H5.out.grown hg1 (fun p hp => by
                     simp only [runH1, List.set_cons_zero, List.mem_cons, List.not_mem_nil, or_false] at hp
                     rcases hp with rfl | rfl | rfl
                     · exact own_ne hF5.out (H5.out.blk 0 rfl) (by decide)
                     · exact own_ne hF5.out (H5.out.blk 1 rfl) (by decide)
                     · exact own_ne hF5.out (H5.out.blk 2 rfl) (by decide)) (own_base hF5.out)
                   have hO6 := hO5.out.grown hg1 (own_type_ne hO5.out.own hF5.out (by decide)) (fun p hp q hq hq2 => hne.out p hp q hq2.symm hq)
                   have hRa6 := Kd.R_grown2 hRa5.out rfl hg1 (fun q hq hq2 => by have := hltF.out q hq; have := (hfrA.out q hq2.symm).1; omega)
                   have hne6 := Aside0.mk (show ∀ p ∈ (pm ++ [(Value.slice Am m.length cm, m)]), NeRow p.1 (.slice Av1 len1 cv1) from fun p hp q hq hq2 => by
                     rcases hat1 with h | ⟨b, h, hb⟩
                     · rw [h] at hq2; exact hne.out p hp q hq hq2
                     · rw [h] at hq2; injection hq2 with hq2; have := hltM.out p hp q hq; have := hsz5; omega)
                   have hneA := Aside0.mk (show NeRow (.slice Aa a.length ca) (.slice Av1 len1 cv1) from fun q hq hq2 => by
                     have h2 := hfrA.out q hq
                     rcases hat1 with h | ⟨b, h, hb⟩
                     · rw [h] at hq2; have := hltF.out q hq2; omega
                     · rw [h] at hq2; injection hq2 with hq2; have := hsz5; omega)
                   have u0 := H6.cell 0 0 rfl rfl
                   have u1 := H6.free 0 0 rfl
                   have H7 := H6.set 0 0 rfl (.slice Av1 len1 cv1)
                   have hO7 := hO6.far (t := 50) (H6.blk 0 rfl) (by decide) (by decide) 0 (.slice Av1 len1 cv1)
                   have hF7 := own_setH ho1 H6 (t := 50) 0 rfl (by decide) 0 (.slice Av1 len1 cv1)
                   have hRa7 := R_farT hRa6 (t := 50) (H6.blk 0 rfl) (by decide) 0 (.slice Av1 len1 cv1)
                   have hsz7 : (w5.setCell ⟨ob, 0, none⟩ (.slice Av1 len1 cv1)).heap.size = w5.heap.size := by simp [World.setCell]
                   have hMo : (w5.setCell ⟨ob, 0, none⟩ (.slice Av1 len1 cv1)).ownsRow w.heap.size 26 1 (.slice AM lenM cM) ((pm ++ [(Value.slice Am m.length cm, m)]).map (·.1)).length ((pm ++ [(Value.slice Am m.length cm, m)]).map (·.1)) := by rw [List.length_map]; exact hO7.own
                   replace hMo := Aside0.mk hMo
                   have hlt5 := Aside0.mk hg1.size
                   have u2 := H7.cell 0 1 rfl rfl
                   have hszx := H7.size
                   replace hlen1 := Aside0.mk hlen1
                   replace H7 := Aside0.mk H7
                   replace hO7 := Aside0.mk hO7
                   replace hF7 := Aside0.mk hF7
                   replace hRa7 := Aside0.mk hRa7
                   clear hb1 hg1 hat1 H6 hO6 hRa6 ho1 s0 s1 t0)
                | (refine print_append (w0 := w) w.heap.size rfl (.tmp 96) (.tmp 98) 45 26 (.slice none 0 0) 24 rfl Try.underlying45 infoR rfl (by decide) (.slice AM lenM cM) ((pm ++ [(Value.slice Am m.length cm, m)]).map (·.1)) (.slice Aa a.length ca) rfl (by rw [hsz7]; rfl) rfl hMo.out H7.out.bel hszx (by rw [List.length_map]; have := hl1.out; omega) ?_
                   intro v2 w6 ho2 hb2 hg2 hat2
                   obtain ⟨Av2, cv2, hv2⟩ := own_slice ho2
                   obtain ⟨len2, hlen2⟩ : ∃ n, ((pm ++ [(Value.slice Am m.length cm, m)]).map (·.1) ++ [Value.slice Aa a.length ca]).length = n := ⟨_, rfl⟩
                   rw [hlen2] at ho2 hv2
                   subst hv2
                   have H8 := H7.out.grown hg2 (fun p hp => by
                     simp only [runH1, List.set_cons_zero, List.mem_cons, List.not_mem_nil, or_false] at hp
                     rcases hp with rfl | rfl | rfl
                     · exact own_ne hMo.out (H7.out.blk 0 rfl) (by decide)
                     · exact own_ne hMo.out (H7.out.blk 1 rfl) (by decide)
                     · exact own_ne hMo.out (H7.out.blk 2 rfl) (by decide)) (own_base hMo.out)
                   have hO8 := hO7.out.snoc hRa7.out (fun p hp q hq hq2 => by have h1 := hltM.out p hp q hq; have h2 := (hfrA.out q hq2).1; omega) hg2 (v' := .slice Av2 len2 cv2) (by have h2 := hlen2; rw [List.length_append, List.length_map] at h2; rw [← hlen2] at ho2 ⊢; rw [List.length_append, List.length_map] at ho2 ⊢; exact ho2)
                   have hF8 := own_other hF7.out hg2 (own_type_ne hF7.out hMo.out (by decide))
                   have q0 := H8.cell 0 1 rfl rfl
                   have q1 := H8.free 0 1 rfl
                   have H9 := Aside0.mk (H8.set 0 1 rfl (.slice Av2 len2 cv2))
                   have hO9 := Aside0.mk (hO8.far (t := 50) (H8.blk 0 rfl) (by decide) (by decide) 1 (.slice Av2 len2 cv2))
                   have hF9 := Aside0.mk (own_setH hF8 H8 (t := 50) 0 rfl (by decide) 1 (.slice Av2 len2 cv2))
                   have hneZ := Aside0.mk (show ∀ p ∈ (pm ++ [(Value.slice Am m.length cm, m)]) ++ [(Value.slice Aa a.length ca, a)], NeRow p.1 (.slice Av1 len1 cv1) from fun p hp => by
                     rcases List.mem_append.1 hp with hp | hp
                     · exact hne6.out p hp
                     · rw [List.mem_singleton.1 hp]; exact hneA.out)
                   clear hb2 hg2 hat2 H8 hO8 hF8 ho2 u0 u1 u2 hO7 hF7 hRa7 hMo H7))
              go_roundg (a3.toNat - (j + 1))
              case measure => have := hj2.out; omega
              case rel =>
                refine ⟨j + 1, nx, a, F ++ [t], .slice Av1 len1 cv1, .slice Av2 len2 cv2, pm ++ [(Value.slice Am m.length cm, m)], Aa, ca, rfl, by go_num, hj2.out, Nat.le_refl _, hca, by simp; omega, by simp; omega, ⟨?_⟩, H9, ⟨by rw [hlen1.out]; exact hF9.out⟩, hO9, hneZ⟩
                rw [hq2.out, List.map_append]
                exact hr.out
    · have e1 : decide ((j : Int) < a3) = false := decide_eq_false hlt
      have hr := hml.out
      rw [show a3.toNat - j = 0 by omega, refRunL] at hr
      injection hr with hr
      injection hr with hr1' hr
      injection hr with hr2' hr
      injection hr with hr3' hr4'
      subst hr1' hr2' hr3' hr4'
      have hOx := hO.out
      have hFx := hF.out
      have HT := HR.out
      obtain ⟨AF, cF, hvF⟩ := own_slice hFx
      obtain ⟨AM, cM, hvM⟩ := hOx.slice
      subst hvF hvM
      have y0 := HT.cell 0 0 rfl rfl
      have y1 := HT.cell 0 1 rfl rfl
      have y2 := HT.cell 0 2 rfl rfl
      have g0 := HT.cell 1 0 rfl rfl
      have fz := HT.free 1 0 rfl
      have HA := HT.set 1 0 rfl (.slice AF F.length cF)
      have g1 := HA.cell 1 1 rfl rfl
      have fa := HA.free 1 1 rfl
      have HB := HA.set 1 1 rfl (.slice AM (pm ++ [(Value.slice Am m.length cm, m)]).length cM)
      have g2 := HB.cell 1 2 rfl rfl
      have fb := HB.free 1 2 rfl
      have HE := Aside0.mk (HB.set 1 2 rfl (.int .u64 s))
      have z0 := HE.out.cell 1 0 rfl rfl
      have z1 := HE.out.cell 1 1 rfl rfl
      have z2 := HE.out.cell 1 2 rfl rfl
      have hF_1 := own_setH hFx HT (t := 50) 1 rfl (by decide) 0 (.slice AF F.length cF)
      have hF_2 := own_setH hF_1 HA (t := 50) 1 rfl (by decide) 1 (.slice AM (pm ++ [(Value.slice Am m.length cm, m)]).length cM)
      have hFe := Aside0.mk (own_setH hF_2 HB (t := 50) 1 rfl (by decide) 2 (.int .u64 s))
      have hO_1 := hOx.far (t := 50) (HT.blk 1 rfl) (by decide) (by decide) 0 (.slice AF F.length cF)
      have hO_2 := hO_1.far (t := 50) (HA.blk 1 rfl) (by decide) (by decide) 1 (.slice AM (pm ++ [(Value.slice Am m.length cm, m)]).length cM)
      have hOe := Aside0.mk (hO_2.far (t := 50) (HB.blk 1 rfl) (by decide) (by decide) 2 (.int .u64 s))
      have hne2 := Aside0.mk (fun k (hk : (Value.slice AM (pm ++ [(Value.slice Am m.length cm, m)]).length cM).ownBlock = some k) (hk2 : some k = (Value.slice AF F.length cF).ownBlock) => (own_type_ne hOe.out.own hFe.out (by decide)).elim (fun h => by rw [h] at hk; cases hk) (fun h => h (hk.trans hk2)))
      obtain ⟨lenM, hlM⟩ : ∃ n, (pm ++ [(Value.slice Am m.length cm, m)]).length = n := ⟨_, rfl⟩
      rw [hlM] at hOe hFe hne2 HE y1 g2 fb z0 z1 z2
      replace hlM := Aside0.mk hlM
      clear HA HB HT hF_1 hF_2 hO_1 hO_2 hml HR hF hO hFx hOx
      go_wp2
      refine ⟨rfl, .tuple #[.agg #[.slice AF F.length cF, .slice AM lenM cM, .int .u64 s], .bool true], by simp [results, Try.f17, go_sem, z0, z1, z2], _, _, rfl, Kd.R_of_own hFe.out (fun _ _ => trivial), ?_, HE.out.bel⟩
      have := hOe.out.shareOk (fun k_ => some k_ ≠ (Value.slice AF F.length cF).ownBlock) (fun k hk hk2 => hne2.out k hk hk2) (fun p hp k hk hk2 => hne.out p hp k hk hk2.symm)
      rw [List.map_append] at this
      exact this

end Go.Proofs.Yteaimaafahpamaa.Hy
