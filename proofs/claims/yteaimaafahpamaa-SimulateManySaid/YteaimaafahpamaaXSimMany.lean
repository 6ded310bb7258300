/- By hand (sim_many): a part of this seat's proofs. -/
import Derived.Test.YteaimaafahpamaaM3
import Derived.Deep.LoopGhost
import Derived.Deep.RegionHeld3
namespace Go.Proofs.Yteaimaafahpamaa.Hy
open Go.RowKit Go.Shelf Go.Proofs.YteaimaafahpamaaW.PrintWords Go.Proofs.YteaimaafahpamaaW.PrintLast Go.Proofs.YteaimaafahpamaaW.PrintMore
set_option linter.unusedVariables false
set_option linter.unusedSimpArgs false
attribute [local go_sem] Oper.semAt_some
/-! ### simulate.Many -/
def manyL (k : Nat) (nm : ByteArray) (ps : List S65) (ts : List S68) (ws : List Int) (steps : Int) : Nat → List Int → List Int → Int → Int → Option (List Int × Int × List Int × Int)
  | 0, F, M, d, _ => some (F, d, M, 0)
  | j + 1, F, M, d, s => (runF k nm ps ts ws s steps).bind fun r => if r.2.2 = 0 then manyL k nm ps ts ws steps j (r.1.foldl firS F) (r.1.foldl maxS M) (if r.1.foldl cntS 0 < steps then wrap64 (d + 1) else d) r.2.1 else some ([], 0, [], r.2.2)
theorem manyL_mono (nm : ByteArray) (ps : List S65) (ts : List S68) (ws : List Int) (steps : Int) (k : Nat) : ∀ (j : Nat) (F M : List Int) (d s : Int), LeO (manyL k nm ps ts ws steps j F M d s) (manyL (k + 1) nm ps ts ws steps j F M d s) := by
  intro j
  induction j with
  | zero => intro F M d s; exact LeO.refl _
  | succ j ih => intro F M d s; exact LeO.bind (runF_mono _ _ _ _ _ _ _) (fun r => LeO.ite (ih _ _ _ _) (LeO.refl _))
def simulate_Many.f (k : Nat) (a0_0 : ByteArray) (l0_1 : List (S65)) (l0_2 : List (S68)) (l1 : List Int) (a2 : Int) (a3 : Int) (a4 : Int) : Option (List Int × Int × List Int × Int) :=
  (simulate_check.f k a0_0 l0_1 l0_2 l1 a3).bind fun c => if c = 0 then (if a4 < 1 ∨ a4 > 100 then some ([], 0, [], 1) else if l0_1.length ≤ 1000000 ∧ l0_2.length ≤ 1000000 then manyL k a0_0 l0_1 l0_2 l1 a3 a4.toNat (List.replicate l0_2.length 0) (List.replicate l0_1.length 0) 0 a2 else none) else some ([], 0, [], c)
theorem simulate_Many.mono : ∀ a0 a1 a2 a3 a4 a5 a6 k, LeO (simulate_Many.f k a0 a1 a2 a3 a4 a5 a6) (simulate_Many.f (k + 1) a0 a1 a2 a3 a4 a5 a6) := by
  intro a0 a1 a2 a3 a4 a5 a6 k
  exact LeO.bind (simulate_check.mono _ _ _ _ _ _) (fun c => LeO.ite (LeO.ite (LeO.refl _) (LeO.ite (manyL_mono _ _ _ _ _ _ _ _ _ _ _) (LeO.refl _))) (LeO.refl _))
theorem Held.remake {w W W' : World} {L L' : List (Nat × Obj)} {S : Nat → Prop} (h : Held w L W) (hc : Chg S W W') (hS : ∀ k, S k → w.heap.size ≤ k) (hat : ∀ p ∈ L', W'.heap[p.1]? = some p.2) (hm : L'.map (·.1) = L.map (·.1)) : Held w L' W' := by
  refine ⟨h.bel.trans (hc.below h.size hS), hat, fun p hp => ?_, by rw [hm]; exact h.nd⟩
  have : p.1 ∈ L.map (·.1) := by rw [← hm]; exact List.mem_map_of_mem hp
  obtain ⟨q, hq, he⟩ := List.mem_map.1 this
  rw [← he]; exact h.lo q hq
theorem held_ne {w W : World} {L : List (Nat × Obj)} (h : Held w L W) {i j : Nat} {a b : Nat × Obj} (hi : L[i]? = some a) (hj : L[j]? = some b) (hij : i ≠ j) : a.1 ≠ b.1 := by
  intro e
  have hi2 : (L.map (·.1))[i]? = some a.1 := by rw [List.getElem?_map, hi]; rfl
  have hj2 : (L.map (·.1))[j]? = some a.1 := by rw [List.getElem?_map, hj, e]; rfl
  exact hij ((List.getElem?_inj (List.getElem?_eq_some_iff.1 hi2).1 h.nd).1 (hi2.trans hj2.symm))
theorem cel_of_held {w W : World} {bf bo gF gM : Nat} {o1 o2 o3 o4 : Obj} {R : List (Nat × Obj)} (h : Held w ((bf, o1) :: (bo, o2) :: (gF, o3) :: (gM, o4) :: R) W) : Cel [(bo, o2), (bf, o1), (gF, o3), (gM, o4)] W := by
  refine ⟨fun p hp => h.at_ p ?_, ?_⟩
  · simp only [List.mem_cons, List.not_mem_nil, or_false] at hp
    rcases hp with rfl | rfl | rfl | rfl <;> simp
  · have h01 := held_ne h (i := 0) (j := 1) rfl rfl (by decide)
    have h02 := held_ne h (i := 0) (j := 2) rfl rfl (by decide)
    have h03 := held_ne h (i := 0) (j := 3) rfl rfl (by decide)
    have h12 := held_ne h (i := 1) (j := 2) rfl rfl (by decide)
    have h13 := held_ne h (i := 1) (j := 3) rfl rfl (by decide)
    have h23 := held_ne h (i := 2) (j := 3) rfl rfl (by decide)
    simp only at h01 h02 h03 h12 h13 h23
    simp [h12, h13, h23, h02, h03, Ne.symm h01]
theorem held_of_cel {w W W' : World} {bf bo gF gM bx br : Nat} {o1 o2 o3 o4 ox or' : Obj} (h : Held w [(bf, o1), (bo, o2), (gF, o3), (gM, o4), (br, or'), (bx, ox)] W) {q1 q2 q3 q4 : Obj} (hc : Cel [(bo, q2), (bf, q1), (gF, q3), (gM, q4)] W') (hch : Chg (fun k => k = bf ∨ k = gF ∨ k = gM) W W') :
    Held w [(bf, q1), (bo, q2), (gF, q3), (gM, q4), (br, or'), (bx, ox)] W' := by
  have l1 := h.lo _ (Held.mem (i := 0) rfl)
  have l3 := h.lo _ (Held.mem (i := 2) rfl)
  have l4 := h.lo _ (Held.mem (i := 3) rfl)
  have h04 := held_ne h (i := 4) (j := 0) rfl rfl (by decide)
  have h24 := held_ne h (i := 4) (j := 2) rfl rfl (by decide)
  have h34 := held_ne h (i := 4) (j := 3) rfl rfl (by decide)
  have h05 := held_ne h (i := 5) (j := 0) rfl rfl (by decide)
  have h25 := held_ne h (i := 5) (j := 2) rfl rfl (by decide)
  have h35 := held_ne h (i := 5) (j := 3) rfl rfl (by decide)
  simp only at h04 h24 h34 h05 h25 h35 l1 l3 l4
  refine h.remake hch (fun k hk => by rcases hk with rfl | rfl | rfl <;> assumption) (fun p hp => ?_) rfl
  simp only [List.mem_cons, List.not_mem_nil, or_false] at hp
  rcases hp with rfl | rfl | rfl | rfl | rfl | rfl
  · exact hc.at_ _ (by simp)
  · exact hc.at_ _ (by simp)
  · exact hc.at_ _ (by simp)
  · exact hc.at_ _ (by simp)
  · exact hch.keep (h.at_ _ (by simp)) (fun hk => by rcases hk with hk | hk | hk <;> contradiction)
  · exact hch.keep (h.at_ _ (by simp)) (fun hk => by rcases hk with hk | hk | hk <;> contradiction)
theorem Held.pick5 {w W : World} {L : List (Nat × Obj)} (h : Held w L W) {a b c d e : Nat × Obj} (i j k l m : Nat) (hi : L[i]? = some a) (hj : L[j]? = some b) (hk : L[k]? = some c) (hl : L[l]? = some d) (hm : L[m]? = some e) (hd : [i, j, k, l, m].Nodup) : Held w [a, b, c, d, e] W := by
  have hmem : ∀ p ∈ [a, b, c, d, e], p ∈ L := by
    intro p hp
    simp only [List.mem_cons, List.not_mem_nil, or_false] at hp
    rcases hp with rfl | rfl | rfl | rfl | rfl
    · exact Held.mem hi
    · exact Held.mem hj
    · exact Held.mem hk
    · exact Held.mem hl
    · exact Held.mem hm
  simp only [List.nodup_cons, List.mem_cons, List.not_mem_nil, or_false, not_or, List.nodup_nil, and_true, not_false_eq_true] at hd
  refine ⟨h.bel, fun p hp => h.at_ p (hmem p hp), fun p hp => h.lo p (hmem p hp), ?_⟩
  simp [held_ne h hi hj hd.1.1, held_ne h hi hk hd.1.2.1, held_ne h hi hl hd.1.2.2.1, held_ne h hi hm hd.1.2.2.2, held_ne h hj hk hd.2.1.1, held_ne h hj hl hd.2.1.2.1, held_ne h hj hm hd.2.1.2.2, held_ne h hk hl hd.2.2.1.1, held_ne h hk hm hd.2.2.1.2, held_ne h hl hm hd.2.2.2]
theorem cell_ck {W : World} {a : Addr} {v : Value} (o : Obj) (h : W.cell? a = some v) : (W.alloc o).cell? a = some v := (World.cell?_alloc_lt _ _ _ (World.block_lt_of_cell? W a h)).trans h
set_option maxRecDepth 100000 in
set_option maxHeartbeats 8000000 in
theorem simulate_Many.calls (k : Nat) (a0_0 : ByteArray) (A0_1 : Option Addr) (c0_1 : Nat) (l0_1 : List (S65)) (A0_2 : Option Addr) (c0_2 : Nat) (l0_2 : List (S68)) (A1 : Option Addr) (c1 : Nat) (l1 : List Int) (a2 : Int) (a3 : Int) (a4 : Int) (r1 : List Int) (r2 : Int) (r3 : List Int) (r4 : Int) (w : World) (hr0_1 : Kd.C k65 w A0_1 l0_1.length l0_1) (hc0_1 : l0_1.length ≤ c0_1) (hr0_2 : Kd.C k68 w A0_2 l0_2.length l0_2) (hc0_2 : l0_2.length ≤ c0_2) (hr1 : Kd.C (Kd.int .i64) w A1 l1.length l1) (hc1 : l1.length ≤ c1) (h : simulate_Many.f k a0_0 l0_1 l0_2 l1 a2 a3 a4 = some (r1, r2, r3, r4)) :
    Calls Try.prog 19 #[.agg #[.string a0_0, .slice A0_1 l0_1.length c0_1, .slice A0_2 l0_2.length c0_2], .slice A1 l1.length c1, .int .u64 a2, .int .i64 a3, .int .i64 a4] w fun e w' => ∃ v0_ v2_ : Value, e = .returned (.tuple #[.agg #[v0_, .int .i64 r2, v2_], .int .i64 r4]) ∧ Kd.R (Kd.int .i64) 3 w' w.heap.size (fun k_ => some k_ ≠ (v2_ : Value).ownBlock) v0_ r1 ∧ Kd.R (Kd.int .i64) 3 w' w.heap.size (fun k_ => some k_ ≠ (v0_ : Value).ownBlock) v2_ r3 ∧ Below w.heap.size w w' := by
  have H0 := ((Held.refl w).push (.cells #[.string a0_0, .slice A0_1 l0_1.length c0_1, .slice A0_2 l0_2.length c0_2] 25)).push (.cells #[.slice none 0 0, .int .i64 0, .slice none 0 0] 55)
  simp only [World.size_alloc] at H0
  obtain ⟨c, hck, h2⟩ := Option.bind_eq_some_iff.mp h
  have hcc := Aside0.mk (simulate_check.calls k a0_0 A0_1 c0_1 l0_1 A0_2 c0_2 l0_2 A1 c1 l1 a3 c _ (Kd.C_below hr0_1 H0.bel) hc0_1 (Kd.C_below hr0_2 H0.bel) hc0_2 (Kd.C_below hr1 H0.bel) hc1 hck)
  have nd0 := H0.cell 1 0 rfl rfl
  have nd1 := H0.cell 1 1 rfl rfl
  have nd2 := H0.cell 1 2 rfl rfl
  replace H0 := Aside0.mk H0
  replace h2 := Aside0.mk h2
  clear h hck
  go_enter Try.func19, Try.ntmps19
  go_wp2_with fail
  refine hcc.out.mono ?_
  rintro e w1 ⟨rfl, hb1⟩
  have H1 := H0.out.below hb1
  have f0 := H1.free 0 0 rfl
  have f1 := H1.free 0 1 rfl
  have f2 := H1.free 0 2 rfl
  by_cases hz : c = 0
  · have b1 : (c != (0 : Int)) = false := by simp [hz]
    have hr := h2.out
    rw [if_pos hz] at hr
    by_cases hrg : a4 < 1 ∨ a4 > 100
    · rw [if_pos hrg] at hr
      injection hr with hr
      injection hr with hr1 hr
      injection hr with hr2 hr
      injection hr with hr3 hr4
      subst hr1 hr2 hr3 hr4
      have g0 := H1.cell 0 0 rfl rfl
      have HA := H1.set 0 0 rfl (.slice none 0 0)
      have g1 := HA.cell 0 1 rfl rfl
      have fa := HA.free 0 1 rfl
      have HB := HA.set 0 1 rfl (.int .i64 0)
      have g2 := HB.cell 0 2 rfl rfl
      have fb := HB.free 0 2 rfl
      have HE := Aside0.mk (HB.set 0 2 rfl (.slice none 0 0))
      clear HA HB
      have z0 := HE.out.cell 0 0 rfl rfl
      have z1 := HE.out.cell 0 1 rfl rfl
      have z2 := HE.out.cell 0 2 rfl rfl
      replace H1 := Aside0.mk H1
      clear hz hcc hb1 h2 nd0 nd1 nd2
      by_cases h1 : a4 < 1
      · have d1 : decide (a4 < 1) = true := decide_eq_true h1
        go_wp2
        refine ⟨rfl, .tuple #[.agg #[.slice none 0 0, .int .i64 0, .slice none 0 0], .int .i64 1], by simp [results, Try.f19, go_sem, z0, z1, z2], .slice none 0 0, .slice none 0 0, rfl, Kd.R_nil _ _ _ _ _, Kd.R_nil _ _ _ _ _, HE.out.bel⟩
      · have d1 : decide (a4 < 1) = false := decide_eq_false h1
        have d2 : decide (a4 > 100) = true := decide_eq_true (by omega)
        have d3 : decide (100 < a4) = true := decide_eq_true (by omega)
        go_wp2
        refine ⟨rfl, .tuple #[.agg #[.slice none 0 0, .int .i64 0, .slice none 0 0], .int .i64 1], by simp [results, Try.f19, go_sem, z0, z1, z2], .slice none 0 0, .slice none 0 0, rfl, Kd.R_nil _ _ _ _ _, Kd.R_nil _ _ _ _ _, HE.out.bel⟩
    · rw [if_neg hrg] at hr
      split at hr
      rotate_left
      · cases hr
      rename_i hln
      obtain ⟨hn1, hn2⟩ := hln
      have d1 : decide (a4 < 1) = false := decide_eq_false (by omega)
      have d2 : decide (a4 > 100) = false := decide_eq_false (by omega)
      have d3 : decide (100 < a4) = false := decide_eq_false (by omega)
      have x0 := H1.cell 1 0 rfl rfl
      have x1 := H1.cell 1 1 rfl rfl
      have x2 := H1.cell 1 2 rfl rfl
      replace H1 := Aside0.mk H1
      replace hr := Aside0.mk hr
      replace hrg := Aside0.mk hrg
      clear hz hcc hb1 h2 nd0 nd1 nd2
      go_wp2
      have hmk1 := print_make (P := Try.prog) 26 3 .i64 8 Try.underlying26 infoInt (by decide) l0_1.length (by omega)
      have hmk2 := print_make (P := Try.prog) 26 3 .i64 8 Try.underlying26 infoInt (by decide) l0_2.length (by omega)
      go_region_held3 (fun w' => w'.cell? ⟨w.heap.size, 1, none⟩ = some (.slice A0_1 l0_1.length c0_1) ∧ w'.cell? ⟨w.heap.size, 2, none⟩ = some (.slice A0_2 l0_2.length c0_2)) ((first | exact ⟨x1, x2⟩ | exact ⟨cell_ck _ x1, cell_ck _ x2⟩ | exact ⟨cell_ck _ (cell_ck _ x1), cell_ck _ (cell_ck _ x2)⟩ | exact ⟨cell_ck _ (cell_ck _ (cell_ck _ x1)), cell_ck _ (cell_ck _ (cell_ck _ x2))⟩)) (fail)
      · clear x0 x1 x2
        have HX := (((H1.out.push (.cells (madeCells #[.int .i64 0] l0_2.length) 3)).push (.cells (madeCells #[.int .i64 0] l0_1.length) 3)).push (.cells #[.slice (some ⟨w1.heap.size, 0, none⟩) l0_2.length l0_2.length, .int .i64 0, .slice (some ⟨w1.heap.size + 1, 0, none⟩) l0_1.length l0_1.length] 55)).drew
        obtain ⟨WX, hWX⟩ : ∃ W, W = (((w1.alloc (.cells (madeCells #[.int .i64 0] l0_2.length) 3)).alloc (.cells (madeCells #[.int .i64 0] l0_1.length) 3)).alloc (.cells #[.slice (some ⟨w1.heap.size, 0, none⟩) l0_2.length l0_2.length, .int .i64 0, .slice (some ⟨w1.heap.size + 1, 0, none⟩) l0_1.length l0_1.length] 55)).drew := ⟨_, rfl⟩
        rw [← hWX] at HX ⊢
        clear hWX
        simp only [World.size_alloc, made_nums] at HX
        replace HX := HX.pick5 0 2 1 3 4 rfl rfl rfl rfl rfl (by decide)
        clear hmk1 hmk2 H1
        generalize w1.heap.size + 1 + 1 = bo at HX ⊢
        generalize w1.heap.size + 1 = gM at HX ⊢
        generalize w1.heap.size = gF at HX ⊢
        replace HX := Aside0.mk HX
        go_wp2
        go_loopg [14, 44] a4.toNat (fun kx st i wr => ∃ (j : Nat) (F M : List Int) (d s : Int), st = .int .u64 s ∧ i = .int .i64 j ∧ j ≤ a4.toNat ∧ a4.toNat - j ≤ kx ∧ F.length = l0_2.length ∧ M.length = l0_1.length ∧ Aside0 (manyL k a0_0 l0_1 l0_2 l1 a3 (a4.toNat - j) F M d s = some (r1, r2, r3, r4)) ∧
          Aside0 (Held w [(bo, .cells #[.slice (some ⟨gF, 0, none⟩) l0_2.length l0_2.length, .int .i64 d, .slice (some ⟨gM, 0, none⟩) l0_1.length l0_1.length] 55 (0, 0)), (gF, .cells (nums .i64 F).toArray 3 (0, 0)), (gM, .cells (nums .i64 M).toArray 3 (0, 0)), (w.heap.size + 1, .cells #[.slice none 0 0, .int .i64 0, .slice none 0 0] 55 (0, 0)), (w.heap.size, .cells #[.string a0_0, .slice A0_1 l0_1.length c0_1, .slice A0_2 l0_2.length c0_2] 25 (0, 0))] wr))
        case atStart => exact ⟨0, _, _, 0, a2, rfl, rfl, Nat.zero_le _, by omega, by simp, by simp, hr, HX⟩
        case round =>
          clear HX hr
          obtain ⟨j, F, M, d, s, rfl, rfl, hj, hkx, hFl, hMl, hml, HR⟩ := hrel
          by_cases hlt : (j : Int) < a4
          · have e1 : decide ((j : Int) < a4) = true := decide_eq_true hlt
            obtain ⟨q, hq⟩ : ∃ q, a4.toNat - j = q + 1 := ⟨a4.toNat - j - 1, by omega⟩
            have hq2 := Aside0.mk (show a4.toNat - (j + 1) = q by omega)
            have hj2 := Aside0.mk (show j + 1 ≤ a4.toNat by omega)
            have hjn : j ≤ 100 := by have := hrg.out; omega
            have hm2 := hml.out
            rw [hq, manyL] at hm2
            obtain ⟨⟨l, s', e'⟩, hrun, hm3⟩ := Option.bind_eq_some_iff.mp hm2
            have HP := HR.out.push (.cells #[.int .i64 0] 3)
            have y0 := HP.cell 0 0 rfl rfl
            have y1 := HP.free 0 0 rfl
            have HQ := HP
            have x0 := HQ.cell 5 0 rfl rfl
            have x1 := HQ.cell 5 1 rfl rfl
            have x2 := HQ.cell 5 2 rfl rfl
            have hcel := cel_of_held HQ
            have hown : ∀ (i : Nat) (p : Nat × Obj), [(wr.heap.size, Obj.cells #[Value.int .i64 0] 3 (0, 0)), (bo, .cells #[.slice (some ⟨gF, 0, none⟩) l0_2.length l0_2.length, .int .i64 d, .slice (some ⟨gM, 0, none⟩) l0_1.length l0_1.length] 55 (0, 0)), (gF, .cells (nums .i64 F).toArray 3 (0, 0)), (gM, .cells (nums .i64 M).toArray 3 (0, 0))][i]? = some p → w.heap.size ≤ p.1 := fun i p hp => HQ.lo p (List.mem_of_getElem? (i := i) (by
              rcases i with _ | _ | _ | _ | i
              · exact hp
              · exact hp
              · exact hp
              · exact hp
              · simp at hp))
            have hI : IMan bo wr.heap.size gF gM l0_1.length l0_2.length d F M [] (fun k => k = wr.heap.size ∨ k = gF ∨ k = gM) _ := ⟨hcel, hFl, hMl, rfl⟩
            have hrc := Aside0.mk (simrun_in k a0_0 A0_1 c0_1 l0_1 A0_2 c0_2 l0_2 A1 c1 l1 s a3 _ _ _ _ l s' e' w _ HQ.bel hr0_1 hc0_1 hr0_2 hc0_2 hr1 hc1 (many1_see l0_1.length l0_2.length w.heap.size bo wr.heap.size gF gM d F M (hown 0 _ rfl) (hown 2 _ rfl) (hown 3 _ rfl) hn2 hn1) hI (enters_of Try.func36 (by kernel_rfl) rfl) hrun)
            replace hm3 := Aside0.mk hm3
            replace HQ := Aside0.mk HQ
            clear hm2 hml hrun hI hcel hown HP HR hlt hq
            go_wp2_with fail
            refine hrc.out.mono ?_
            rintro e w2 ⟨rfl, own, ⟨hcel, hFl2, hMl2, rfl⟩, hch, _⟩
            have HS := held_of_cel HQ.out hcel hch
            by_cases he : e' = 0
            · have b2 : (e' != (0 : Int)) = false := by simp [he]
              have hr := hm3.out
              simp only [if_pos he] at hr
              obtain ⟨c2, hc2⟩ : ∃ c, l.foldl cntS 0 = c := ⟨_, rfl⟩
              obtain ⟨F2, hF2⟩ : ∃ c, l.foldl firS F = c := ⟨_, rfl⟩
              obtain ⟨M2, hM2⟩ : ∃ c, l.foldl maxS M = c := ⟨_, rfl⟩
              rw [hc2, hF2, hM2] at HS hr
              rw [hF2] at hFl2
              rw [hM2] at hMl2
              have z0 := HS.cell 0 0 rfl rfl
              have z1 := HS.cell 1 1 rfl rfl
              have z2 := HS.free 1 1 rfl
              have HT := HS.set 1 1 rfl (.int .i64 (wrap64 (d + 1)))
              replace HS := Aside0.mk HS.tail
              replace HT := Aside0.mk HT.tail
              replace hr := Aside0.mk hr
              replace hFl2 := Aside0.mk hFl2
              replace hMl2 := Aside0.mk hMl2
              clear hm3 he hrc hch hcel HQ y0 y1 x0 x1 x2 hc2 hF2 hM2 hFl hMl
              by_cases hlt2 : c2 < a3
              · have e2 : decide (c2 < a3) = true := decide_eq_true hlt2
                have hr2 := hr.out
                rw [if_pos hlt2] at hr2
                replace hr2 := Aside0.mk hr2
                clear hr hlt2
                go_wp2
                go_roundg (a4.toNat - (j + 1))
                case measure => have := hj2.out; omega
                case rel => exact ⟨j + 1, F2, M2, _, s', rfl, by go_num, hj2.out, Nat.le_refl _, hFl2.out, hMl2.out, ⟨by rw [hq2.out]; exact hr2.out⟩, HT⟩
              · have e2 : decide (c2 < a3) = false := decide_eq_false hlt2
                have hr2 := hr.out
                rw [if_neg hlt2] at hr2
                replace hr2 := Aside0.mk hr2
                clear hr hlt2
                go_wp2
                go_roundg (a4.toNat - (j + 1))
                case measure => have := hj2.out; omega
                case rel => exact ⟨j + 1, F2, M2, _, s', rfl, by go_num, hj2.out, Nat.le_refl _, hFl2.out, hMl2.out, ⟨by rw [hq2.out]; exact hr2.out⟩, HS⟩
            · have b2 : (e' != (0 : Int)) = true := by simp [he]
              have hr := hm3.out
              simp only [if_neg he] at hr
              injection hr with hr
              injection hr with hr1' hr
              injection hr with hr2' hr
              injection hr with hr3' hr4'
              subst hr1' hr2' hr3' hr4'
              have g0 := HS.cell 4 0 rfl rfl
              have fz := HS.free 4 0 rfl
              have HA := HS.set 4 0 rfl (.slice none 0 0)
              have g1 := HA.cell 4 1 rfl rfl
              have fa := HA.free 4 1 rfl
              have HB := HA.set 4 1 rfl (.int .i64 0)
              have g2 := HB.cell 4 2 rfl rfl
              have fb := HB.free 4 2 rfl
              have HE := Aside0.mk (HB.set 4 2 rfl (.slice none 0 0))
              have z0 := HE.out.cell 4 0 rfl rfl
              have z1 := HE.out.cell 4 1 rfl rfl
              have z2 := HE.out.cell 4 2 rfl rfl
              clear HA HB HS hm3 he hrc hch hcel HQ y0 y1 x0 x1 x2
              go_wp2
              refine ⟨rfl, .tuple #[.agg #[.slice none 0 0, .int .i64 0, .slice none 0 0], .int .i64 e'], by simp [results, Try.f19, go_sem, z0, z1, z2], .slice none 0 0, .slice none 0 0, rfl, Kd.R_nil _ _ _ _ _, Kd.R_nil _ _ _ _ _, HE.out.bel⟩
          · have e1 : decide ((j : Int) < a4) = false := decide_eq_false hlt
            have hr := hml.out
            rw [show a4.toNat - j = 0 by omega, manyL] at hr
            injection hr with hr
            injection hr with hr1' hr
            injection hr with hr2' hr
            injection hr with hr3' hr4'
            subst hr1' hr2' hr3' hr4'
            have HS := HR.out
            have y0 := HS.cell 0 0 rfl rfl
            have y1 := HS.cell 0 1 rfl rfl
            have y2 := HS.cell 0 2 rfl rfl
            have g0 := HS.cell 3 0 rfl rfl
            have fz := HS.free 3 0 rfl
            have HA := HS.set 3 0 rfl (.slice (some ⟨gF, 0, none⟩) l0_2.length l0_2.length)
            have g1 := HA.cell 3 1 rfl rfl
            have fa := HA.free 3 1 rfl
            have HB := HA.set 3 1 rfl (.int .i64 d)
            have g2 := HB.cell 3 2 rfl rfl
            have fb := HB.free 3 2 rfl
            have HE := Aside0.mk (HB.set 3 2 rfl (.slice (some ⟨gM, 0, none⟩) l0_1.length l0_1.length))
            have z0 := HE.out.cell 3 0 rfl rfl
            have z1 := HE.out.cell 3 1 rfl rfl
            have z2 := HE.out.cell 3 2 rfl rfl
            have hgne := Aside0.mk (held_ne HS (i := 1) (j := 2) rfl rfl (by decide))
            replace hFl := Aside0.mk hFl
            replace hMl := Aside0.mk hMl
            clear HA HB HS hml HR
            go_wp2
            refine ⟨rfl, .tuple #[.agg #[.slice (some ⟨gF, 0, none⟩) l0_2.length l0_2.length, .int .i64 d, .slice (some ⟨gM, 0, none⟩) l0_1.length l0_1.length], .int .i64 0], by simp [results, Try.f19, go_sem, z0, z1, z2], _, _, rfl, ?_, ?_, HE.out.bel⟩
            · exact Kd.R_reok rfl (HE.out.row 1 rfl _ hFl.out.symm (by have := hFl.out; omega)) (fun k hk hk2 => by simp only [Value.ownBlock, Option.map_some] at hk hk2; exact hgne.out (by injection hk.trans hk2))
            · exact Kd.R_reok rfl (HE.out.row 2 rfl _ hMl.out.symm (by have := hMl.out; omega)) (fun k hk hk2 => by simp only [Value.ownBlock, Option.map_some] at hk hk2; exact hgne.out (by injection (hk.trans hk2).symm))
      · clear x0 x1 x2
        have HX := (((H1.out.push (.cells (madeCells #[.int .i64 0] l0_2.length) 3)).push (.cells #[.slice (some ⟨w1.heap.size, 0, none⟩) l0_2.length l0_2.length, .int .i64 0, .slice (some ⟨w1.heap.size + 1 + 1, 0, none⟩) l0_1.length l0_1.length] 55)).push (.cells (madeCells #[.int .i64 0] l0_1.length) 3)).drew
        obtain ⟨WX, hWX⟩ : ∃ W, W = (((w1.alloc (.cells (madeCells #[.int .i64 0] l0_2.length) 3)).alloc (.cells #[.slice (some ⟨w1.heap.size, 0, none⟩) l0_2.length l0_2.length, .int .i64 0, .slice (some ⟨w1.heap.size + 1 + 1, 0, none⟩) l0_1.length l0_1.length] 55)).alloc (.cells (madeCells #[.int .i64 0] l0_1.length) 3)).drew := ⟨_, rfl⟩
        rw [← hWX] at HX ⊢
        clear hWX
        simp only [World.size_alloc, made_nums] at HX
        replace HX := HX.pick5 1 2 0 3 4 rfl rfl rfl rfl rfl (by decide)
        clear hmk1 hmk2 H1
        generalize w1.heap.size + 1 + 1 = gM at HX ⊢
        generalize w1.heap.size + 1 = bo at HX ⊢
        generalize w1.heap.size = gF at HX ⊢
        replace HX := Aside0.mk HX
        go_wp2
        go_loopg [14, 44] a4.toNat (fun kx st i wr => ∃ (j : Nat) (F M : List Int) (d s : Int), st = .int .u64 s ∧ i = .int .i64 j ∧ j ≤ a4.toNat ∧ a4.toNat - j ≤ kx ∧ F.length = l0_2.length ∧ M.length = l0_1.length ∧ Aside0 (manyL k a0_0 l0_1 l0_2 l1 a3 (a4.toNat - j) F M d s = some (r1, r2, r3, r4)) ∧
          Aside0 (Held w [(bo, .cells #[.slice (some ⟨gF, 0, none⟩) l0_2.length l0_2.length, .int .i64 d, .slice (some ⟨gM, 0, none⟩) l0_1.length l0_1.length] 55 (0, 0)), (gF, .cells (nums .i64 F).toArray 3 (0, 0)), (gM, .cells (nums .i64 M).toArray 3 (0, 0)), (w.heap.size + 1, .cells #[.slice none 0 0, .int .i64 0, .slice none 0 0] 55 (0, 0)), (w.heap.size, .cells #[.string a0_0, .slice A0_1 l0_1.length c0_1, .slice A0_2 l0_2.length c0_2] 25 (0, 0))] wr))
        case atStart => exact ⟨0, _, _, 0, a2, rfl, rfl, Nat.zero_le _, by omega, by simp, by simp, hr, HX⟩
        case round =>
          clear HX hr
          obtain ⟨j, F, M, d, s, rfl, rfl, hj, hkx, hFl, hMl, hml, HR⟩ := hrel
          by_cases hlt : (j : Int) < a4
          · have e1 : decide ((j : Int) < a4) = true := decide_eq_true hlt
            obtain ⟨q, hq⟩ : ∃ q, a4.toNat - j = q + 1 := ⟨a4.toNat - j - 1, by omega⟩
            have hq2 := Aside0.mk (show a4.toNat - (j + 1) = q by omega)
            have hj2 := Aside0.mk (show j + 1 ≤ a4.toNat by omega)
            have hjn : j ≤ 100 := by have := hrg.out; omega
            have hm2 := hml.out
            rw [hq, manyL] at hm2
            obtain ⟨⟨l, s', e'⟩, hrun, hm3⟩ := Option.bind_eq_some_iff.mp hm2
            have HP := HR.out.push (.cells #[.int .i64 0] 3)
            have y0 := HP.cell 0 0 rfl rfl
            have y1 := HP.free 0 0 rfl
            have HQ := HP
            have x0 := HQ.cell 5 0 rfl rfl
            have x1 := HQ.cell 5 1 rfl rfl
            have x2 := HQ.cell 5 2 rfl rfl
            have hcel := cel_of_held HQ
            have hown : ∀ (i : Nat) (p : Nat × Obj), [(wr.heap.size, Obj.cells #[Value.int .i64 0] 3 (0, 0)), (bo, .cells #[.slice (some ⟨gF, 0, none⟩) l0_2.length l0_2.length, .int .i64 d, .slice (some ⟨gM, 0, none⟩) l0_1.length l0_1.length] 55 (0, 0)), (gF, .cells (nums .i64 F).toArray 3 (0, 0)), (gM, .cells (nums .i64 M).toArray 3 (0, 0))][i]? = some p → w.heap.size ≤ p.1 := fun i p hp => HQ.lo p (List.mem_of_getElem? (i := i) (by
              rcases i with _ | _ | _ | _ | i
              · exact hp
              · exact hp
              · exact hp
              · exact hp
              · simp at hp))
            have hI : IMan bo wr.heap.size gF gM l0_1.length l0_2.length d F M [] (fun k => k = wr.heap.size ∨ k = gF ∨ k = gM) _ := ⟨hcel, hFl, hMl, rfl⟩
            have hrc := Aside0.mk (simrun_in k a0_0 A0_1 c0_1 l0_1 A0_2 c0_2 l0_2 A1 c1 l1 s a3 _ _ _ _ l s' e' w _ HQ.bel hr0_1 hc0_1 hr0_2 hc0_2 hr1 hc1 (many1_see l0_1.length l0_2.length w.heap.size bo wr.heap.size gF gM d F M (hown 0 _ rfl) (hown 2 _ rfl) (hown 3 _ rfl) hn2 hn1) hI (enters_of Try.func36 (by kernel_rfl) rfl) hrun)
            replace hm3 := Aside0.mk hm3
            replace HQ := Aside0.mk HQ
            clear hm2 hml hrun hI hcel hown HP HR hlt hq
            go_wp2_with fail
            refine hrc.out.mono ?_
            rintro e w2 ⟨rfl, own, ⟨hcel, hFl2, hMl2, rfl⟩, hch, _⟩
            have HS := held_of_cel HQ.out hcel hch
            by_cases he : e' = 0
            · have b2 : (e' != (0 : Int)) = false := by simp [he]
              have hr := hm3.out
              simp only [if_pos he] at hr
              obtain ⟨c2, hc2⟩ : ∃ c, l.foldl cntS 0 = c := ⟨_, rfl⟩
              obtain ⟨F2, hF2⟩ : ∃ c, l.foldl firS F = c := ⟨_, rfl⟩
              obtain ⟨M2, hM2⟩ : ∃ c, l.foldl maxS M = c := ⟨_, rfl⟩
              rw [hc2, hF2, hM2] at HS hr
              rw [hF2] at hFl2
              rw [hM2] at hMl2
              have z0 := HS.cell 0 0 rfl rfl
              have z1 := HS.cell 1 1 rfl rfl
              have z2 := HS.free 1 1 rfl
              have HT := HS.set 1 1 rfl (.int .i64 (wrap64 (d + 1)))
              replace HS := Aside0.mk HS.tail
              replace HT := Aside0.mk HT.tail
              replace hr := Aside0.mk hr
              replace hFl2 := Aside0.mk hFl2
              replace hMl2 := Aside0.mk hMl2
              clear hm3 he hrc hch hcel HQ y0 y1 x0 x1 x2 hc2 hF2 hM2 hFl hMl
              by_cases hlt2 : c2 < a3
              · have e2 : decide (c2 < a3) = true := decide_eq_true hlt2
                have hr2 := hr.out
                rw [if_pos hlt2] at hr2
                replace hr2 := Aside0.mk hr2
                clear hr hlt2
                go_wp2
                go_roundg (a4.toNat - (j + 1))
                case measure => have := hj2.out; omega
                case rel => exact ⟨j + 1, F2, M2, _, s', rfl, by go_num, hj2.out, Nat.le_refl _, hFl2.out, hMl2.out, ⟨by rw [hq2.out]; exact hr2.out⟩, HT⟩
              · have e2 : decide (c2 < a3) = false := decide_eq_false hlt2
                have hr2 := hr.out
                rw [if_neg hlt2] at hr2
                replace hr2 := Aside0.mk hr2
                clear hr hlt2
                go_wp2
                go_roundg (a4.toNat - (j + 1))
                case measure => have := hj2.out; omega
                case rel => exact ⟨j + 1, F2, M2, _, s', rfl, by go_num, hj2.out, Nat.le_refl _, hFl2.out, hMl2.out, ⟨by rw [hq2.out]; exact hr2.out⟩, HS⟩
            · have b2 : (e' != (0 : Int)) = true := by simp [he]
              have hr := hm3.out
              simp only [if_neg he] at hr
              injection hr with hr
              injection hr with hr1' hr
              injection hr with hr2' hr
              injection hr with hr3' hr4'
              subst hr1' hr2' hr3' hr4'
              have g0 := HS.cell 4 0 rfl rfl
              have fz := HS.free 4 0 rfl
              have HA := HS.set 4 0 rfl (.slice none 0 0)
              have g1 := HA.cell 4 1 rfl rfl
              have fa := HA.free 4 1 rfl
              have HB := HA.set 4 1 rfl (.int .i64 0)
              have g2 := HB.cell 4 2 rfl rfl
              have fb := HB.free 4 2 rfl
              have HE := Aside0.mk (HB.set 4 2 rfl (.slice none 0 0))
              have z0 := HE.out.cell 4 0 rfl rfl
              have z1 := HE.out.cell 4 1 rfl rfl
              have z2 := HE.out.cell 4 2 rfl rfl
              clear HA HB HS hm3 he hrc hch hcel HQ y0 y1 x0 x1 x2
              go_wp2
              refine ⟨rfl, .tuple #[.agg #[.slice none 0 0, .int .i64 0, .slice none 0 0], .int .i64 e'], by simp [results, Try.f19, go_sem, z0, z1, z2], .slice none 0 0, .slice none 0 0, rfl, Kd.R_nil _ _ _ _ _, Kd.R_nil _ _ _ _ _, HE.out.bel⟩
          · have e1 : decide ((j : Int) < a4) = false := decide_eq_false hlt
            have hr := hml.out
            rw [show a4.toNat - j = 0 by omega, manyL] at hr
            injection hr with hr
            injection hr with hr1' hr
            injection hr with hr2' hr
            injection hr with hr3' hr4'
            subst hr1' hr2' hr3' hr4'
            have HS := HR.out
            have y0 := HS.cell 0 0 rfl rfl
            have y1 := HS.cell 0 1 rfl rfl
            have y2 := HS.cell 0 2 rfl rfl
            have g0 := HS.cell 3 0 rfl rfl
            have fz := HS.free 3 0 rfl
            have HA := HS.set 3 0 rfl (.slice (some ⟨gF, 0, none⟩) l0_2.length l0_2.length)
            have g1 := HA.cell 3 1 rfl rfl
            have fa := HA.free 3 1 rfl
            have HB := HA.set 3 1 rfl (.int .i64 d)
            have g2 := HB.cell 3 2 rfl rfl
            have fb := HB.free 3 2 rfl
            have HE := Aside0.mk (HB.set 3 2 rfl (.slice (some ⟨gM, 0, none⟩) l0_1.length l0_1.length))
            have z0 := HE.out.cell 3 0 rfl rfl
            have z1 := HE.out.cell 3 1 rfl rfl
            have z2 := HE.out.cell 3 2 rfl rfl
            have hgne := Aside0.mk (held_ne HS (i := 1) (j := 2) rfl rfl (by decide))
            replace hFl := Aside0.mk hFl
            replace hMl := Aside0.mk hMl
            clear HA HB HS hml HR
            go_wp2
            refine ⟨rfl, .tuple #[.agg #[.slice (some ⟨gF, 0, none⟩) l0_2.length l0_2.length, .int .i64 d, .slice (some ⟨gM, 0, none⟩) l0_1.length l0_1.length], .int .i64 0], by simp [results, Try.f19, go_sem, z0, z1, z2], _, _, rfl, ?_, ?_, HE.out.bel⟩
            · exact Kd.R_reok rfl (HE.out.row 1 rfl _ hFl.out.symm (by have := hFl.out; omega)) (fun k hk hk2 => by simp only [Value.ownBlock, Option.map_some] at hk hk2; exact hgne.out (by injection hk.trans hk2))
            · exact Kd.R_reok rfl (HE.out.row 2 rfl _ hMl.out.symm (by have := hMl.out; omega)) (fun k hk hk2 => by simp only [Value.ownBlock, Option.map_some] at hk hk2; exact hgne.out (by injection (hk.trans hk2).symm))
      · clear x0 x1 x2
        have HX := (((H1.out.push (.cells (madeCells #[.int .i64 0] l0_1.length) 3)).push (.cells (madeCells #[.int .i64 0] l0_2.length) 3)).push (.cells #[.slice (some ⟨w1.heap.size + 1, 0, none⟩) l0_2.length l0_2.length, .int .i64 0, .slice (some ⟨w1.heap.size, 0, none⟩) l0_1.length l0_1.length] 55)).drew
        obtain ⟨WX, hWX⟩ : ∃ W, W = (((w1.alloc (.cells (madeCells #[.int .i64 0] l0_1.length) 3)).alloc (.cells (madeCells #[.int .i64 0] l0_2.length) 3)).alloc (.cells #[.slice (some ⟨w1.heap.size + 1, 0, none⟩) l0_2.length l0_2.length, .int .i64 0, .slice (some ⟨w1.heap.size, 0, none⟩) l0_1.length l0_1.length] 55)).drew := ⟨_, rfl⟩
        rw [← hWX] at HX ⊢
        clear hWX
        simp only [World.size_alloc, made_nums] at HX
        replace HX := HX.pick5 0 1 2 3 4 rfl rfl rfl rfl rfl (by decide)
        clear hmk1 hmk2 H1
        generalize w1.heap.size + 1 + 1 = bo at HX ⊢
        generalize w1.heap.size + 1 = gF at HX ⊢
        generalize w1.heap.size = gM at HX ⊢
        replace HX := Aside0.mk HX
        go_wp2
        go_loopg [14, 44] a4.toNat (fun kx st i wr => ∃ (j : Nat) (F M : List Int) (d s : Int), st = .int .u64 s ∧ i = .int .i64 j ∧ j ≤ a4.toNat ∧ a4.toNat - j ≤ kx ∧ F.length = l0_2.length ∧ M.length = l0_1.length ∧ Aside0 (manyL k a0_0 l0_1 l0_2 l1 a3 (a4.toNat - j) F M d s = some (r1, r2, r3, r4)) ∧
          Aside0 (Held w [(bo, .cells #[.slice (some ⟨gF, 0, none⟩) l0_2.length l0_2.length, .int .i64 d, .slice (some ⟨gM, 0, none⟩) l0_1.length l0_1.length] 55 (0, 0)), (gF, .cells (nums .i64 F).toArray 3 (0, 0)), (gM, .cells (nums .i64 M).toArray 3 (0, 0)), (w.heap.size + 1, .cells #[.slice none 0 0, .int .i64 0, .slice none 0 0] 55 (0, 0)), (w.heap.size, .cells #[.string a0_0, .slice A0_1 l0_1.length c0_1, .slice A0_2 l0_2.length c0_2] 25 (0, 0))] wr))
        case atStart => exact ⟨0, _, _, 0, a2, rfl, rfl, Nat.zero_le _, by omega, by simp, by simp, hr, HX⟩
        case round =>
          clear HX hr
          obtain ⟨j, F, M, d, s, rfl, rfl, hj, hkx, hFl, hMl, hml, HR⟩ := hrel
          by_cases hlt : (j : Int) < a4
          · have e1 : decide ((j : Int) < a4) = true := decide_eq_true hlt
            obtain ⟨q, hq⟩ : ∃ q, a4.toNat - j = q + 1 := ⟨a4.toNat - j - 1, by omega⟩
            have hq2 := Aside0.mk (show a4.toNat - (j + 1) = q by omega)
            have hj2 := Aside0.mk (show j + 1 ≤ a4.toNat by omega)
            have hjn : j ≤ 100 := by have := hrg.out; omega
            have hm2 := hml.out
            rw [hq, manyL] at hm2
            obtain ⟨⟨l, s', e'⟩, hrun, hm3⟩ := Option.bind_eq_some_iff.mp hm2
            have HP := HR.out.push (.cells #[.int .i64 0] 3)
            have y0 := HP.cell 0 0 rfl rfl
            have y1 := HP.free 0 0 rfl
            have HQ := HP
            have x0 := HQ.cell 5 0 rfl rfl
            have x1 := HQ.cell 5 1 rfl rfl
            have x2 := HQ.cell 5 2 rfl rfl
            have hcel := cel_of_held HQ
            have hown : ∀ (i : Nat) (p : Nat × Obj), [(wr.heap.size, Obj.cells #[Value.int .i64 0] 3 (0, 0)), (bo, .cells #[.slice (some ⟨gF, 0, none⟩) l0_2.length l0_2.length, .int .i64 d, .slice (some ⟨gM, 0, none⟩) l0_1.length l0_1.length] 55 (0, 0)), (gF, .cells (nums .i64 F).toArray 3 (0, 0)), (gM, .cells (nums .i64 M).toArray 3 (0, 0))][i]? = some p → w.heap.size ≤ p.1 := fun i p hp => HQ.lo p (List.mem_of_getElem? (i := i) (by
              rcases i with _ | _ | _ | _ | i
              · exact hp
              · exact hp
              · exact hp
              · exact hp
              · simp at hp))
            have hI : IMan bo wr.heap.size gF gM l0_1.length l0_2.length d F M [] (fun k => k = wr.heap.size ∨ k = gF ∨ k = gM) _ := ⟨hcel, hFl, hMl, rfl⟩
            have hrc := Aside0.mk (simrun_in k a0_0 A0_1 c0_1 l0_1 A0_2 c0_2 l0_2 A1 c1 l1 s a3 _ _ _ _ l s' e' w _ HQ.bel hr0_1 hc0_1 hr0_2 hc0_2 hr1 hc1 (many1_see l0_1.length l0_2.length w.heap.size bo wr.heap.size gF gM d F M (hown 0 _ rfl) (hown 2 _ rfl) (hown 3 _ rfl) hn2 hn1) hI (enters_of Try.func36 (by kernel_rfl) rfl) hrun)
            replace hm3 := Aside0.mk hm3
            replace HQ := Aside0.mk HQ
            clear hm2 hml hrun hI hcel hown HP HR hlt hq
            go_wp2_with fail
            refine hrc.out.mono ?_
            rintro e w2 ⟨rfl, own, ⟨hcel, hFl2, hMl2, rfl⟩, hch, _⟩
            have HS := held_of_cel HQ.out hcel hch
            by_cases he : e' = 0
            · have b2 : (e' != (0 : Int)) = false := by simp [he]
              have hr := hm3.out
              simp only [if_pos he] at hr
              obtain ⟨c2, hc2⟩ : ∃ c, l.foldl cntS 0 = c := ⟨_, rfl⟩
              obtain ⟨F2, hF2⟩ : ∃ c, l.foldl firS F = c := ⟨_, rfl⟩
              obtain ⟨M2, hM2⟩ : ∃ c, l.foldl maxS M = c := ⟨_, rfl⟩
              rw [hc2, hF2, hM2] at HS hr
              rw [hF2] at hFl2
              rw [hM2] at hMl2
              have z0 := HS.cell 0 0 rfl rfl
              have z1 := HS.cell 1 1 rfl rfl
              have z2 := HS.free 1 1 rfl
              have HT := HS.set 1 1 rfl (.int .i64 (wrap64 (d + 1)))
              replace HS := Aside0.mk HS.tail
              replace HT := Aside0.mk HT.tail
              replace hr := Aside0.mk hr
              replace hFl2 := Aside0.mk hFl2
              replace hMl2 := Aside0.mk hMl2
              clear hm3 he hrc hch hcel HQ y0 y1 x0 x1 x2 hc2 hF2 hM2 hFl hMl
              by_cases hlt2 : c2 < a3
              · have e2 : decide (c2 < a3) = true := decide_eq_true hlt2
                have hr2 := hr.out
                rw [if_pos hlt2] at hr2
                replace hr2 := Aside0.mk hr2
                clear hr hlt2
                go_wp2
                go_roundg (a4.toNat - (j + 1))
                case measure => have := hj2.out; omega
                case rel => exact ⟨j + 1, F2, M2, _, s', rfl, by go_num, hj2.out, Nat.le_refl _, hFl2.out, hMl2.out, ⟨by rw [hq2.out]; exact hr2.out⟩, HT⟩
              · have e2 : decide (c2 < a3) = false := decide_eq_false hlt2
                have hr2 := hr.out
                rw [if_neg hlt2] at hr2
                replace hr2 := Aside0.mk hr2
                clear hr hlt2
                go_wp2
                go_roundg (a4.toNat - (j + 1))
                case measure => have := hj2.out; omega
                case rel => exact ⟨j + 1, F2, M2, _, s', rfl, by go_num, hj2.out, Nat.le_refl _, hFl2.out, hMl2.out, ⟨by rw [hq2.out]; exact hr2.out⟩, HS⟩
            · have b2 : (e' != (0 : Int)) = true := by simp [he]
              have hr := hm3.out
              simp only [if_neg he] at hr
              injection hr with hr
              injection hr with hr1' hr
              injection hr with hr2' hr
              injection hr with hr3' hr4'
              subst hr1' hr2' hr3' hr4'
              have g0 := HS.cell 4 0 rfl rfl
              have fz := HS.free 4 0 rfl
              have HA := HS.set 4 0 rfl (.slice none 0 0)
              have g1 := HA.cell 4 1 rfl rfl
              have fa := HA.free 4 1 rfl
              have HB := HA.set 4 1 rfl (.int .i64 0)
              have g2 := HB.cell 4 2 rfl rfl
              have fb := HB.free 4 2 rfl
              have HE := Aside0.mk (HB.set 4 2 rfl (.slice none 0 0))
              have z0 := HE.out.cell 4 0 rfl rfl
              have z1 := HE.out.cell 4 1 rfl rfl
              have z2 := HE.out.cell 4 2 rfl rfl
              clear HA HB HS hm3 he hrc hch hcel HQ y0 y1 x0 x1 x2
              go_wp2
              refine ⟨rfl, .tuple #[.agg #[.slice none 0 0, .int .i64 0, .slice none 0 0], .int .i64 e'], by simp [results, Try.f19, go_sem, z0, z1, z2], .slice none 0 0, .slice none 0 0, rfl, Kd.R_nil _ _ _ _ _, Kd.R_nil _ _ _ _ _, HE.out.bel⟩
          · have e1 : decide ((j : Int) < a4) = false := decide_eq_false hlt
            have hr := hml.out
            rw [show a4.toNat - j = 0 by omega, manyL] at hr
            injection hr with hr
            injection hr with hr1' hr
            injection hr with hr2' hr
            injection hr with hr3' hr4'
            subst hr1' hr2' hr3' hr4'
            have HS := HR.out
            have y0 := HS.cell 0 0 rfl rfl
            have y1 := HS.cell 0 1 rfl rfl
            have y2 := HS.cell 0 2 rfl rfl
            have g0 := HS.cell 3 0 rfl rfl
            have fz := HS.free 3 0 rfl
            have HA := HS.set 3 0 rfl (.slice (some ⟨gF, 0, none⟩) l0_2.length l0_2.length)
            have g1 := HA.cell 3 1 rfl rfl
            have fa := HA.free 3 1 rfl
            have HB := HA.set 3 1 rfl (.int .i64 d)
            have g2 := HB.cell 3 2 rfl rfl
            have fb := HB.free 3 2 rfl
            have HE := Aside0.mk (HB.set 3 2 rfl (.slice (some ⟨gM, 0, none⟩) l0_1.length l0_1.length))
            have z0 := HE.out.cell 3 0 rfl rfl
            have z1 := HE.out.cell 3 1 rfl rfl
            have z2 := HE.out.cell 3 2 rfl rfl
            have hgne := Aside0.mk (held_ne HS (i := 1) (j := 2) rfl rfl (by decide))
            replace hFl := Aside0.mk hFl
            replace hMl := Aside0.mk hMl
            clear HA HB HS hml HR
            go_wp2
            refine ⟨rfl, .tuple #[.agg #[.slice (some ⟨gF, 0, none⟩) l0_2.length l0_2.length, .int .i64 d, .slice (some ⟨gM, 0, none⟩) l0_1.length l0_1.length], .int .i64 0], by simp [results, Try.f19, go_sem, z0, z1, z2], _, _, rfl, ?_, ?_, HE.out.bel⟩
            · exact Kd.R_reok rfl (HE.out.row 1 rfl _ hFl.out.symm (by have := hFl.out; omega)) (fun k hk hk2 => by simp only [Value.ownBlock, Option.map_some] at hk hk2; exact hgne.out (by injection hk.trans hk2))
            · exact Kd.R_reok rfl (HE.out.row 2 rfl _ hMl.out.symm (by have := hMl.out; omega)) (fun k hk hk2 => by simp only [Value.ownBlock, Option.map_some] at hk hk2; exact hgne.out (by injection (hk.trans hk2).symm))
      · clear x0 x1 x2
        have HX := (((H1.out.push (.cells (madeCells #[.int .i64 0] l0_1.length) 3)).push (.cells #[.slice (some ⟨w1.heap.size + 1 + 1, 0, none⟩) l0_2.length l0_2.length, .int .i64 0, .slice (some ⟨w1.heap.size, 0, none⟩) l0_1.length l0_1.length] 55)).push (.cells (madeCells #[.int .i64 0] l0_2.length) 3)).drew
        obtain ⟨WX, hWX⟩ : ∃ W, W = (((w1.alloc (.cells (madeCells #[.int .i64 0] l0_1.length) 3)).alloc (.cells #[.slice (some ⟨w1.heap.size + 1 + 1, 0, none⟩) l0_2.length l0_2.length, .int .i64 0, .slice (some ⟨w1.heap.size, 0, none⟩) l0_1.length l0_1.length] 55)).alloc (.cells (madeCells #[.int .i64 0] l0_2.length) 3)).drew := ⟨_, rfl⟩
        rw [← hWX] at HX ⊢
        clear hWX
        simp only [World.size_alloc, made_nums] at HX
        replace HX := HX.pick5 1 0 2 3 4 rfl rfl rfl rfl rfl (by decide)
        clear hmk1 hmk2 H1
        generalize w1.heap.size + 1 + 1 = gF at HX ⊢
        generalize w1.heap.size + 1 = bo at HX ⊢
        generalize w1.heap.size = gM at HX ⊢
        replace HX := Aside0.mk HX
        go_wp2
        go_loopg [14, 44] a4.toNat (fun kx st i wr => ∃ (j : Nat) (F M : List Int) (d s : Int), st = .int .u64 s ∧ i = .int .i64 j ∧ j ≤ a4.toNat ∧ a4.toNat - j ≤ kx ∧ F.length = l0_2.length ∧ M.length = l0_1.length ∧ Aside0 (manyL k a0_0 l0_1 l0_2 l1 a3 (a4.toNat - j) F M d s = some (r1, r2, r3, r4)) ∧
          Aside0 (Held w [(bo, .cells #[.slice (some ⟨gF, 0, none⟩) l0_2.length l0_2.length, .int .i64 d, .slice (some ⟨gM, 0, none⟩) l0_1.length l0_1.length] 55 (0, 0)), (gF, .cells (nums .i64 F).toArray 3 (0, 0)), (gM, .cells (nums .i64 M).toArray 3 (0, 0)), (w.heap.size + 1, .cells #[.slice none 0 0, .int .i64 0, .slice none 0 0] 55 (0, 0)), (w.heap.size, .cells #[.string a0_0, .slice A0_1 l0_1.length c0_1, .slice A0_2 l0_2.length c0_2] 25 (0, 0))] wr))
        case atStart => exact ⟨0, _, _, 0, a2, rfl, rfl, Nat.zero_le _, by omega, by simp, by simp, hr, HX⟩
        case round =>
          clear HX hr
          obtain ⟨j, F, M, d, s, rfl, rfl, hj, hkx, hFl, hMl, hml, HR⟩ := hrel
          by_cases hlt : (j : Int) < a4
          · have e1 : decide ((j : Int) < a4) = true := decide_eq_true hlt
            obtain ⟨q, hq⟩ : ∃ q, a4.toNat - j = q + 1 := ⟨a4.toNat - j - 1, by omega⟩
            have hq2 := Aside0.mk (show a4.toNat - (j + 1) = q by omega)
            have hj2 := Aside0.mk (show j + 1 ≤ a4.toNat by omega)
            have hjn : j ≤ 100 := by have := hrg.out; omega
            have hm2 := hml.out
            rw [hq, manyL] at hm2
            obtain ⟨⟨l, s', e'⟩, hrun, hm3⟩ := Option.bind_eq_some_iff.mp hm2
            have HP := HR.out.push (.cells #[.int .i64 0] 3)
            have y0 := HP.cell 0 0 rfl rfl
            have y1 := HP.free 0 0 rfl
            have HQ := HP
            have x0 := HQ.cell 5 0 rfl rfl
            have x1 := HQ.cell 5 1 rfl rfl
            have x2 := HQ.cell 5 2 rfl rfl
            have hcel := cel_of_held HQ
            have hown : ∀ (i : Nat) (p : Nat × Obj), [(wr.heap.size, Obj.cells #[Value.int .i64 0] 3 (0, 0)), (bo, .cells #[.slice (some ⟨gF, 0, none⟩) l0_2.length l0_2.length, .int .i64 d, .slice (some ⟨gM, 0, none⟩) l0_1.length l0_1.length] 55 (0, 0)), (gF, .cells (nums .i64 F).toArray 3 (0, 0)), (gM, .cells (nums .i64 M).toArray 3 (0, 0))][i]? = some p → w.heap.size ≤ p.1 := fun i p hp => HQ.lo p (List.mem_of_getElem? (i := i) (by
              rcases i with _ | _ | _ | _ | i
              · exact hp
              · exact hp
              · exact hp
              · exact hp
              · simp at hp))
            have hI : IMan bo wr.heap.size gF gM l0_1.length l0_2.length d F M [] (fun k => k = wr.heap.size ∨ k = gF ∨ k = gM) _ := ⟨hcel, hFl, hMl, rfl⟩
            have hrc := Aside0.mk (simrun_in k a0_0 A0_1 c0_1 l0_1 A0_2 c0_2 l0_2 A1 c1 l1 s a3 _ _ _ _ l s' e' w _ HQ.bel hr0_1 hc0_1 hr0_2 hc0_2 hr1 hc1 (many1_see l0_1.length l0_2.length w.heap.size bo wr.heap.size gF gM d F M (hown 0 _ rfl) (hown 2 _ rfl) (hown 3 _ rfl) hn2 hn1) hI (enters_of Try.func36 (by kernel_rfl) rfl) hrun)
            replace hm3 := Aside0.mk hm3
            replace HQ := Aside0.mk HQ
            clear hm2 hml hrun hI hcel hown HP HR hlt hq
            go_wp2_with fail
            refine hrc.out.mono ?_
            rintro e w2 ⟨rfl, own, ⟨hcel, hFl2, hMl2, rfl⟩, hch, _⟩
            have HS := held_of_cel HQ.out hcel hch
            by_cases he : e' = 0
            · have b2 : (e' != (0 : Int)) = false := by simp [he]
              have hr := hm3.out
              simp only [if_pos he] at hr
              obtain ⟨c2, hc2⟩ : ∃ c, l.foldl cntS 0 = c := ⟨_, rfl⟩
              obtain ⟨F2, hF2⟩ : ∃ c, l.foldl firS F = c := ⟨_, rfl⟩
              obtain ⟨M2, hM2⟩ : ∃ c, l.foldl maxS M = c := ⟨_, rfl⟩
              rw [hc2, hF2, hM2] at HS hr
              rw [hF2] at hFl2
              rw [hM2] at hMl2
              have z0 := HS.cell 0 0 rfl rfl
              have z1 := HS.cell 1 1 rfl rfl
              have z2 := HS.free 1 1 rfl
              have HT := HS.set 1 1 rfl (.int .i64 (wrap64 (d + 1)))
              replace HS := Aside0.mk HS.tail
              replace HT := Aside0.mk HT.tail
              replace hr := Aside0.mk hr
              replace hFl2 := Aside0.mk hFl2
              replace hMl2 := Aside0.mk hMl2
              clear hm3 he hrc hch hcel HQ y0 y1 x0 x1 x2 hc2 hF2 hM2 hFl hMl
              by_cases hlt2 : c2 < a3
              · have e2 : decide (c2 < a3) = true := decide_eq_true hlt2
                have hr2 := hr.out
                rw [if_pos hlt2] at hr2
                replace hr2 := Aside0.mk hr2
                clear hr hlt2
                go_wp2
                go_roundg (a4.toNat - (j + 1))
                case measure => have := hj2.out; omega
                case rel => exact ⟨j + 1, F2, M2, _, s', rfl, by go_num, hj2.out, Nat.le_refl _, hFl2.out, hMl2.out, ⟨by rw [hq2.out]; exact hr2.out⟩, HT⟩
              · have e2 : decide (c2 < a3) = false := decide_eq_false hlt2
                have hr2 := hr.out
                rw [if_neg hlt2] at hr2
                replace hr2 := Aside0.mk hr2
                clear hr hlt2
                go_wp2
                go_roundg (a4.toNat - (j + 1))
                case measure => have := hj2.out; omega
                case rel => exact ⟨j + 1, F2, M2, _, s', rfl, by go_num, hj2.out, Nat.le_refl _, hFl2.out, hMl2.out, ⟨by rw [hq2.out]; exact hr2.out⟩, HS⟩
            · have b2 : (e' != (0 : Int)) = true := by simp [he]
              have hr := hm3.out
              simp only [if_neg he] at hr
              injection hr with hr
              injection hr with hr1' hr
              injection hr with hr2' hr
              injection hr with hr3' hr4'
              subst hr1' hr2' hr3' hr4'
              have g0 := HS.cell 4 0 rfl rfl
              have fz := HS.free 4 0 rfl
              have HA := HS.set 4 0 rfl (.slice none 0 0)
              have g1 := HA.cell 4 1 rfl rfl
              have fa := HA.free 4 1 rfl
              have HB := HA.set 4 1 rfl (.int .i64 0)
              have g2 := HB.cell 4 2 rfl rfl
              have fb := HB.free 4 2 rfl
              have HE := Aside0.mk (HB.set 4 2 rfl (.slice none 0 0))
              have z0 := HE.out.cell 4 0 rfl rfl
              have z1 := HE.out.cell 4 1 rfl rfl
              have z2 := HE.out.cell 4 2 rfl rfl
              clear HA HB HS hm3 he hrc hch hcel HQ y0 y1 x0 x1 x2
              go_wp2
              refine ⟨rfl, .tuple #[.agg #[.slice none 0 0, .int .i64 0, .slice none 0 0], .int .i64 e'], by simp [results, Try.f19, go_sem, z0, z1, z2], .slice none 0 0, .slice none 0 0, rfl, Kd.R_nil _ _ _ _ _, Kd.R_nil _ _ _ _ _, HE.out.bel⟩
          · have e1 : decide ((j : Int) < a4) = false := decide_eq_false hlt
            have hr := hml.out
            rw [show a4.toNat - j = 0 by omega, manyL] at hr
            injection hr with hr
            injection hr with hr1' hr
            injection hr with hr2' hr
            injection hr with hr3' hr4'
            subst hr1' hr2' hr3' hr4'
            have HS := HR.out
            have y0 := HS.cell 0 0 rfl rfl
            have y1 := HS.cell 0 1 rfl rfl
            have y2 := HS.cell 0 2 rfl rfl
            have g0 := HS.cell 3 0 rfl rfl
            have fz := HS.free 3 0 rfl
            have HA := HS.set 3 0 rfl (.slice (some ⟨gF, 0, none⟩) l0_2.length l0_2.length)
            have g1 := HA.cell 3 1 rfl rfl
            have fa := HA.free 3 1 rfl
            have HB := HA.set 3 1 rfl (.int .i64 d)
            have g2 := HB.cell 3 2 rfl rfl
            have fb := HB.free 3 2 rfl
            have HE := Aside0.mk (HB.set 3 2 rfl (.slice (some ⟨gM, 0, none⟩) l0_1.length l0_1.length))
            have z0 := HE.out.cell 3 0 rfl rfl
            have z1 := HE.out.cell 3 1 rfl rfl
            have z2 := HE.out.cell 3 2 rfl rfl
            have hgne := Aside0.mk (held_ne HS (i := 1) (j := 2) rfl rfl (by decide))
            replace hFl := Aside0.mk hFl
            replace hMl := Aside0.mk hMl
            clear HA HB HS hml HR
            go_wp2
            refine ⟨rfl, .tuple #[.agg #[.slice (some ⟨gF, 0, none⟩) l0_2.length l0_2.length, .int .i64 d, .slice (some ⟨gM, 0, none⟩) l0_1.length l0_1.length], .int .i64 0], by simp [results, Try.f19, go_sem, z0, z1, z2], _, _, rfl, ?_, ?_, HE.out.bel⟩
            · exact Kd.R_reok rfl (HE.out.row 1 rfl _ hFl.out.symm (by have := hFl.out; omega)) (fun k hk hk2 => by simp only [Value.ownBlock, Option.map_some] at hk hk2; exact hgne.out (by injection hk.trans hk2))
            · exact Kd.R_reok rfl (HE.out.row 2 rfl _ hMl.out.symm (by have := hMl.out; omega)) (fun k hk hk2 => by simp only [Value.ownBlock, Option.map_some] at hk hk2; exact hgne.out (by injection (hk.trans hk2).symm))
      · clear x0 x1 x2
        have HX := (((H1.out.push (.cells #[.slice (some ⟨w1.heap.size + 1, 0, none⟩) l0_2.length l0_2.length, .int .i64 0, .slice (some ⟨w1.heap.size + 1 + 1, 0, none⟩) l0_1.length l0_1.length] 55)).push (.cells (madeCells #[.int .i64 0] l0_2.length) 3)).push (.cells (madeCells #[.int .i64 0] l0_1.length) 3)).drew
        obtain ⟨WX, hWX⟩ : ∃ W, W = (((w1.alloc (.cells #[.slice (some ⟨w1.heap.size + 1, 0, none⟩) l0_2.length l0_2.length, .int .i64 0, .slice (some ⟨w1.heap.size + 1 + 1, 0, none⟩) l0_1.length l0_1.length] 55)).alloc (.cells (madeCells #[.int .i64 0] l0_2.length) 3)).alloc (.cells (madeCells #[.int .i64 0] l0_1.length) 3)).drew := ⟨_, rfl⟩
        rw [← hWX] at HX ⊢
        clear hWX
        simp only [World.size_alloc, made_nums] at HX
        replace HX := HX.pick5 2 1 0 3 4 rfl rfl rfl rfl rfl (by decide)
        clear hmk1 hmk2 H1
        generalize w1.heap.size + 1 + 1 = gM at HX ⊢
        generalize w1.heap.size + 1 = gF at HX ⊢
        generalize w1.heap.size = bo at HX ⊢
        replace HX := Aside0.mk HX
        go_wp2
        go_loopg [14, 44] a4.toNat (fun kx st i wr => ∃ (j : Nat) (F M : List Int) (d s : Int), st = .int .u64 s ∧ i = .int .i64 j ∧ j ≤ a4.toNat ∧ a4.toNat - j ≤ kx ∧ F.length = l0_2.length ∧ M.length = l0_1.length ∧ Aside0 (manyL k a0_0 l0_1 l0_2 l1 a3 (a4.toNat - j) F M d s = some (r1, r2, r3, r4)) ∧
          Aside0 (Held w [(bo, .cells #[.slice (some ⟨gF, 0, none⟩) l0_2.length l0_2.length, .int .i64 d, .slice (some ⟨gM, 0, none⟩) l0_1.length l0_1.length] 55 (0, 0)), (gF, .cells (nums .i64 F).toArray 3 (0, 0)), (gM, .cells (nums .i64 M).toArray 3 (0, 0)), (w.heap.size + 1, .cells #[.slice none 0 0, .int .i64 0, .slice none 0 0] 55 (0, 0)), (w.heap.size, .cells #[.string a0_0, .slice A0_1 l0_1.length c0_1, .slice A0_2 l0_2.length c0_2] 25 (0, 0))] wr))
        case atStart => exact ⟨0, _, _, 0, a2, rfl, rfl, Nat.zero_le _, by omega, by simp, by simp, hr, HX⟩
        case round =>
          clear HX hr
          obtain ⟨j, F, M, d, s, rfl, rfl, hj, hkx, hFl, hMl, hml, HR⟩ := hrel
          by_cases hlt : (j : Int) < a4
          · have e1 : decide ((j : Int) < a4) = true := decide_eq_true hlt
            obtain ⟨q, hq⟩ : ∃ q, a4.toNat - j = q + 1 := ⟨a4.toNat - j - 1, by omega⟩
            have hq2 := Aside0.mk (show a4.toNat - (j + 1) = q by omega)
            have hj2 := Aside0.mk (show j + 1 ≤ a4.toNat by omega)
            have hjn : j ≤ 100 := by have := hrg.out; omega
            have hm2 := hml.out
            rw [hq, manyL] at hm2
            obtain ⟨⟨l, s', e'⟩, hrun, hm3⟩ := Option.bind_eq_some_iff.mp hm2
            have HP := HR.out.push (.cells #[.int .i64 0] 3)
            have y0 := HP.cell 0 0 rfl rfl
            have y1 := HP.free 0 0 rfl
            have HQ := HP
            have x0 := HQ.cell 5 0 rfl rfl
            have x1 := HQ.cell 5 1 rfl rfl
            have x2 := HQ.cell 5 2 rfl rfl
            have hcel := cel_of_held HQ
            have hown : ∀ (i : Nat) (p : Nat × Obj), [(wr.heap.size, Obj.cells #[Value.int .i64 0] 3 (0, 0)), (bo, .cells #[.slice (some ⟨gF, 0, none⟩) l0_2.length l0_2.length, .int .i64 d, .slice (some ⟨gM, 0, none⟩) l0_1.length l0_1.length] 55 (0, 0)), (gF, .cells (nums .i64 F).toArray 3 (0, 0)), (gM, .cells (nums .i64 M).toArray 3 (0, 0))][i]? = some p → w.heap.size ≤ p.1 := fun i p hp => HQ.lo p (List.mem_of_getElem? (i := i) (by
              rcases i with _ | _ | _ | _ | i
              · exact hp
              · exact hp
              · exact hp
              · exact hp
              · simp at hp))
            have hI : IMan bo wr.heap.size gF gM l0_1.length l0_2.length d F M [] (fun k => k = wr.heap.size ∨ k = gF ∨ k = gM) _ := ⟨hcel, hFl, hMl, rfl⟩
            have hrc := Aside0.mk (simrun_in k a0_0 A0_1 c0_1 l0_1 A0_2 c0_2 l0_2 A1 c1 l1 s a3 _ _ _ _ l s' e' w _ HQ.bel hr0_1 hc0_1 hr0_2 hc0_2 hr1 hc1 (many1_see l0_1.length l0_2.length w.heap.size bo wr.heap.size gF gM d F M (hown 0 _ rfl) (hown 2 _ rfl) (hown 3 _ rfl) hn2 hn1) hI (enters_of Try.func36 (by kernel_rfl) rfl) hrun)
            replace hm3 := Aside0.mk hm3
            replace HQ := Aside0.mk HQ
            clear hm2 hml hrun hI hcel hown HP HR hlt hq
            go_wp2_with fail
            refine hrc.out.mono ?_
            rintro e w2 ⟨rfl, own, ⟨hcel, hFl2, hMl2, rfl⟩, hch, _⟩
            have HS := held_of_cel HQ.out hcel hch
            by_cases he : e' = 0
            · have b2 : (e' != (0 : Int)) = false := by simp [he]
              have hr := hm3.out
              simp only [if_pos he] at hr
              obtain ⟨c2, hc2⟩ : ∃ c, l.foldl cntS 0 = c := ⟨_, rfl⟩
              obtain ⟨F2, hF2⟩ : ∃ c, l.foldl firS F = c := ⟨_, rfl⟩
              obtain ⟨M2, hM2⟩ : ∃ c, l.foldl maxS M = c := ⟨_, rfl⟩
              rw [hc2, hF2, hM2] at HS hr
              rw [hF2] at hFl2
              rw [hM2] at hMl2
              have z0 := HS.cell 0 0 rfl rfl
              have z1 := HS.cell 1 1 rfl rfl
              have z2 := HS.free 1 1 rfl
              have HT := HS.set 1 1 rfl (.int .i64 (wrap64 (d + 1)))
              replace HS := Aside0.mk HS.tail
              replace HT := Aside0.mk HT.tail
              replace hr := Aside0.mk hr
              replace hFl2 := Aside0.mk hFl2
              replace hMl2 := Aside0.mk hMl2
              clear hm3 he hrc hch hcel HQ y0 y1 x0 x1 x2 hc2 hF2 hM2 hFl hMl
              by_cases hlt2 : c2 < a3
              · have e2 : decide (c2 < a3) = true := decide_eq_true hlt2
                have hr2 := hr.out
                rw [if_pos hlt2] at hr2
                replace hr2 := Aside0.mk hr2
                clear hr hlt2
                go_wp2
                go_roundg (a4.toNat - (j + 1))
                case measure => have := hj2.out; omega
                case rel => exact ⟨j + 1, F2, M2, _, s', rfl, by go_num, hj2.out, Nat.le_refl _, hFl2.out, hMl2.out, ⟨by rw [hq2.out]; exact hr2.out⟩, HT⟩
              · have e2 : decide (c2 < a3) = false := decide_eq_false hlt2
                have hr2 := hr.out
                rw [if_neg hlt2] at hr2
                replace hr2 := Aside0.mk hr2
                clear hr hlt2
                go_wp2
                go_roundg (a4.toNat - (j + 1))
                case measure => have := hj2.out; omega
                case rel => exact ⟨j + 1, F2, M2, _, s', rfl, by go_num, hj2.out, Nat.le_refl _, hFl2.out, hMl2.out, ⟨by rw [hq2.out]; exact hr2.out⟩, HS⟩
            · have b2 : (e' != (0 : Int)) = true := by simp [he]
              have hr := hm3.out
              simp only [if_neg he] at hr
              injection hr with hr
              injection hr with hr1' hr
              injection hr with hr2' hr
              injection hr with hr3' hr4'
              subst hr1' hr2' hr3' hr4'
              have g0 := HS.cell 4 0 rfl rfl
              have fz := HS.free 4 0 rfl
              have HA := HS.set 4 0 rfl (.slice none 0 0)
              have g1 := HA.cell 4 1 rfl rfl
              have fa := HA.free 4 1 rfl
              have HB := HA.set 4 1 rfl (.int .i64 0)
              have g2 := HB.cell 4 2 rfl rfl
              have fb := HB.free 4 2 rfl
              have HE := Aside0.mk (HB.set 4 2 rfl (.slice none 0 0))
              have z0 := HE.out.cell 4 0 rfl rfl
              have z1 := HE.out.cell 4 1 rfl rfl
              have z2 := HE.out.cell 4 2 rfl rfl
              clear HA HB HS hm3 he hrc hch hcel HQ y0 y1 x0 x1 x2
              go_wp2
              refine ⟨rfl, .tuple #[.agg #[.slice none 0 0, .int .i64 0, .slice none 0 0], .int .i64 e'], by simp [results, Try.f19, go_sem, z0, z1, z2], .slice none 0 0, .slice none 0 0, rfl, Kd.R_nil _ _ _ _ _, Kd.R_nil _ _ _ _ _, HE.out.bel⟩
          · have e1 : decide ((j : Int) < a4) = false := decide_eq_false hlt
            have hr := hml.out
            rw [show a4.toNat - j = 0 by omega, manyL] at hr
            injection hr with hr
            injection hr with hr1' hr
            injection hr with hr2' hr
            injection hr with hr3' hr4'
            subst hr1' hr2' hr3' hr4'
            have HS := HR.out
            have y0 := HS.cell 0 0 rfl rfl
            have y1 := HS.cell 0 1 rfl rfl
            have y2 := HS.cell 0 2 rfl rfl
            have g0 := HS.cell 3 0 rfl rfl
            have fz := HS.free 3 0 rfl
            have HA := HS.set 3 0 rfl (.slice (some ⟨gF, 0, none⟩) l0_2.length l0_2.length)
            have g1 := HA.cell 3 1 rfl rfl
            have fa := HA.free 3 1 rfl
            have HB := HA.set 3 1 rfl (.int .i64 d)
            have g2 := HB.cell 3 2 rfl rfl
            have fb := HB.free 3 2 rfl
            have HE := Aside0.mk (HB.set 3 2 rfl (.slice (some ⟨gM, 0, none⟩) l0_1.length l0_1.length))
            have z0 := HE.out.cell 3 0 rfl rfl
            have z1 := HE.out.cell 3 1 rfl rfl
            have z2 := HE.out.cell 3 2 rfl rfl
            have hgne := Aside0.mk (held_ne HS (i := 1) (j := 2) rfl rfl (by decide))
            replace hFl := Aside0.mk hFl
            replace hMl := Aside0.mk hMl
            clear HA HB HS hml HR
            go_wp2
            refine ⟨rfl, .tuple #[.agg #[.slice (some ⟨gF, 0, none⟩) l0_2.length l0_2.length, .int .i64 d, .slice (some ⟨gM, 0, none⟩) l0_1.length l0_1.length], .int .i64 0], by simp [results, Try.f19, go_sem, z0, z1, z2], _, _, rfl, ?_, ?_, HE.out.bel⟩
            · exact Kd.R_reok rfl (HE.out.row 1 rfl _ hFl.out.symm (by have := hFl.out; omega)) (fun k hk hk2 => by simp only [Value.ownBlock, Option.map_some] at hk hk2; exact hgne.out (by injection hk.trans hk2))
            · exact Kd.R_reok rfl (HE.out.row 2 rfl _ hMl.out.symm (by have := hMl.out; omega)) (fun k hk hk2 => by simp only [Value.ownBlock, Option.map_some] at hk hk2; exact hgne.out (by injection (hk.trans hk2).symm))
      · clear x0 x1 x2
        have HX := (((H1.out.push (.cells #[.slice (some ⟨w1.heap.size + 1 + 1, 0, none⟩) l0_2.length l0_2.length, .int .i64 0, .slice (some ⟨w1.heap.size + 1, 0, none⟩) l0_1.length l0_1.length] 55)).push (.cells (madeCells #[.int .i64 0] l0_1.length) 3)).push (.cells (madeCells #[.int .i64 0] l0_2.length) 3)).drew
        obtain ⟨WX, hWX⟩ : ∃ W, W = (((w1.alloc (.cells #[.slice (some ⟨w1.heap.size + 1 + 1, 0, none⟩) l0_2.length l0_2.length, .int .i64 0, .slice (some ⟨w1.heap.size + 1, 0, none⟩) l0_1.length l0_1.length] 55)).alloc (.cells (madeCells #[.int .i64 0] l0_1.length) 3)).alloc (.cells (madeCells #[.int .i64 0] l0_2.length) 3)).drew := ⟨_, rfl⟩
        rw [← hWX] at HX ⊢
        clear hWX
        simp only [World.size_alloc, made_nums] at HX
        replace HX := HX.pick5 2 0 1 3 4 rfl rfl rfl rfl rfl (by decide)
        clear hmk1 hmk2 H1
        generalize w1.heap.size + 1 + 1 = gF at HX ⊢
        generalize w1.heap.size + 1 = gM at HX ⊢
        generalize w1.heap.size = bo at HX ⊢
        replace HX := Aside0.mk HX
        go_wp2
        go_loopg [14, 44] a4.toNat (fun kx st i wr => ∃ (j : Nat) (F M : List Int) (d s : Int), st = .int .u64 s ∧ i = .int .i64 j ∧ j ≤ a4.toNat ∧ a4.toNat - j ≤ kx ∧ F.length = l0_2.length ∧ M.length = l0_1.length ∧ Aside0 (manyL k a0_0 l0_1 l0_2 l1 a3 (a4.toNat - j) F M d s = some (r1, r2, r3, r4)) ∧
          Aside0 (Held w [(bo, .cells #[.slice (some ⟨gF, 0, none⟩) l0_2.length l0_2.length, .int .i64 d, .slice (some ⟨gM, 0, none⟩) l0_1.length l0_1.length] 55 (0, 0)), (gF, .cells (nums .i64 F).toArray 3 (0, 0)), (gM, .cells (nums .i64 M).toArray 3 (0, 0)), (w.heap.size + 1, .cells #[.slice none 0 0, .int .i64 0, .slice none 0 0] 55 (0, 0)), (w.heap.size, .cells #[.string a0_0, .slice A0_1 l0_1.length c0_1, .slice A0_2 l0_2.length c0_2] 25 (0, 0))] wr))
        case atStart => exact ⟨0, _, _, 0, a2, rfl, rfl, Nat.zero_le _, by omega, by simp, by simp, hr, HX⟩
        case round =>
          clear HX hr
          obtain ⟨j, F, M, d, s, rfl, rfl, hj, hkx, hFl, hMl, hml, HR⟩ := hrel
          by_cases hlt : (j : Int) < a4
          · have e1 : decide ((j : Int) < a4) = true := decide_eq_true hlt
            obtain ⟨q, hq⟩ : ∃ q, a4.toNat - j = q + 1 := ⟨a4.toNat - j - 1, by omega⟩
            have hq2 := Aside0.mk (show a4.toNat - (j + 1) = q by omega)
            have hj2 := Aside0.mk (show j + 1 ≤ a4.toNat by omega)
            have hjn : j ≤ 100 := by have := hrg.out; omega
            have hm2 := hml.out
            rw [hq, manyL] at hm2
            obtain ⟨⟨l, s', e'⟩, hrun, hm3⟩ := Option.bind_eq_some_iff.mp hm2
            have HP := HR.out.push (.cells #[.int .i64 0] 3)
            have y0 := HP.cell 0 0 rfl rfl
            have y1 := HP.free 0 0 rfl
            have HQ := HP
            have x0 := HQ.cell 5 0 rfl rfl
            have x1 := HQ.cell 5 1 rfl rfl
            have x2 := HQ.cell 5 2 rfl rfl
            have hcel := cel_of_held HQ
            have hown : ∀ (i : Nat) (p : Nat × Obj), [(wr.heap.size, Obj.cells #[Value.int .i64 0] 3 (0, 0)), (bo, .cells #[.slice (some ⟨gF, 0, none⟩) l0_2.length l0_2.length, .int .i64 d, .slice (some ⟨gM, 0, none⟩) l0_1.length l0_1.length] 55 (0, 0)), (gF, .cells (nums .i64 F).toArray 3 (0, 0)), (gM, .cells (nums .i64 M).toArray 3 (0, 0))][i]? = some p → w.heap.size ≤ p.1 := fun i p hp => HQ.lo p (List.mem_of_getElem? (i := i) (by
              rcases i with _ | _ | _ | _ | i
              · exact hp
              · exact hp
              · exact hp
              · exact hp
              · simp at hp))
            have hI : IMan bo wr.heap.size gF gM l0_1.length l0_2.length d F M [] (fun k => k = wr.heap.size ∨ k = gF ∨ k = gM) _ := ⟨hcel, hFl, hMl, rfl⟩
            have hrc := Aside0.mk (simrun_in k a0_0 A0_1 c0_1 l0_1 A0_2 c0_2 l0_2 A1 c1 l1 s a3 _ _ _ _ l s' e' w _ HQ.bel hr0_1 hc0_1 hr0_2 hc0_2 hr1 hc1 (many1_see l0_1.length l0_2.length w.heap.size bo wr.heap.size gF gM d F M (hown 0 _ rfl) (hown 2 _ rfl) (hown 3 _ rfl) hn2 hn1) hI (enters_of Try.func36 (by kernel_rfl) rfl) hrun)
            replace hm3 := Aside0.mk hm3
            replace HQ := Aside0.mk HQ
            clear hm2 hml hrun hI hcel hown HP HR hlt hq
            go_wp2_with fail
            refine hrc.out.mono ?_
            rintro e w2 ⟨rfl, own, ⟨hcel, hFl2, hMl2, rfl⟩, hch, _⟩
            have HS := held_of_cel HQ.out hcel hch
            by_cases he : e' = 0
            · have b2 : (e' != (0 : Int)) = false := by simp [he]
              have hr := hm3.out
              simp only [if_pos he] at hr
              obtain ⟨c2, hc2⟩ : ∃ c, l.foldl cntS 0 = c := ⟨_, rfl⟩
              obtain ⟨F2, hF2⟩ : ∃ c, l.foldl firS F = c := ⟨_, rfl⟩
              obtain ⟨M2, hM2⟩ : ∃ c, l.foldl maxS M = c := ⟨_, rfl⟩
              rw [hc2, hF2, hM2] at HS hr
              rw [hF2] at hFl2
              rw [hM2] at hMl2
              have z0 := HS.cell 0 0 rfl rfl
              have z1 := HS.cell 1 1 rfl rfl
              have z2 := HS.free 1 1 rfl
              have HT := HS.set 1 1 rfl (.int .i64 (wrap64 (d + 1)))
              replace HS := Aside0.mk HS.tail
              replace HT := Aside0.mk HT.tail
              replace hr := Aside0.mk hr
              replace hFl2 := Aside0.mk hFl2
              replace hMl2 := Aside0.mk hMl2
              clear hm3 he hrc hch hcel HQ y0 y1 x0 x1 x2 hc2 hF2 hM2 hFl hMl
              by_cases hlt2 : c2 < a3
              · have e2 : decide (c2 < a3) = true := decide_eq_true hlt2
                have hr2 := hr.out
                rw [if_pos hlt2] at hr2
                replace hr2 := Aside0.mk hr2
                clear hr hlt2
                go_wp2
                go_roundg (a4.toNat - (j + 1))
                case measure => have := hj2.out; omega
                case rel => exact ⟨j + 1, F2, M2, _, s', rfl, by go_num, hj2.out, Nat.le_refl _, hFl2.out, hMl2.out, ⟨by rw [hq2.out]; exact hr2.out⟩, HT⟩
              · have e2 : decide (c2 < a3) = false := decide_eq_false hlt2
                have hr2 := hr.out
                rw [if_neg hlt2] at hr2
                replace hr2 := Aside0.mk hr2
                clear hr hlt2
                go_wp2
                go_roundg (a4.toNat - (j + 1))
                case measure => have := hj2.out; omega
                case rel => exact ⟨j + 1, F2, M2, _, s', rfl, by go_num, hj2.out, Nat.le_refl _, hFl2.out, hMl2.out, ⟨by rw [hq2.out]; exact hr2.out⟩, HS⟩
            · have b2 : (e' != (0 : Int)) = true := by simp [he]
              have hr := hm3.out
              simp only [if_neg he] at hr
              injection hr with hr
              injection hr with hr1' hr
              injection hr with hr2' hr
              injection hr with hr3' hr4'
              subst hr1' hr2' hr3' hr4'
              have g0 := HS.cell 4 0 rfl rfl
              have fz := HS.free 4 0 rfl
              have HA := HS.set 4 0 rfl (.slice none 0 0)
              have g1 := HA.cell 4 1 rfl rfl
              have fa := HA.free 4 1 rfl
              have HB := HA.set 4 1 rfl (.int .i64 0)
              have g2 := HB.cell 4 2 rfl rfl
              have fb := HB.free 4 2 rfl
              have HE := Aside0.mk (HB.set 4 2 rfl (.slice none 0 0))
              have z0 := HE.out.cell 4 0 rfl rfl
              have z1 := HE.out.cell 4 1 rfl rfl
              have z2 := HE.out.cell 4 2 rfl rfl
              clear HA HB HS hm3 he hrc hch hcel HQ y0 y1 x0 x1 x2
              go_wp2
              refine ⟨rfl, .tuple #[.agg #[.slice none 0 0, .int .i64 0, .slice none 0 0], .int .i64 e'], by simp [results, Try.f19, go_sem, z0, z1, z2], .slice none 0 0, .slice none 0 0, rfl, Kd.R_nil _ _ _ _ _, Kd.R_nil _ _ _ _ _, HE.out.bel⟩
          · have e1 : decide ((j : Int) < a4) = false := decide_eq_false hlt
            have hr := hml.out
            rw [show a4.toNat - j = 0 by omega, manyL] at hr
            injection hr with hr
            injection hr with hr1' hr
            injection hr with hr2' hr
            injection hr with hr3' hr4'
            subst hr1' hr2' hr3' hr4'
            have HS := HR.out
            have y0 := HS.cell 0 0 rfl rfl
            have y1 := HS.cell 0 1 rfl rfl
            have y2 := HS.cell 0 2 rfl rfl
            have g0 := HS.cell 3 0 rfl rfl
            have fz := HS.free 3 0 rfl
            have HA := HS.set 3 0 rfl (.slice (some ⟨gF, 0, none⟩) l0_2.length l0_2.length)
            have g1 := HA.cell 3 1 rfl rfl
            have fa := HA.free 3 1 rfl
            have HB := HA.set 3 1 rfl (.int .i64 d)
            have g2 := HB.cell 3 2 rfl rfl
            have fb := HB.free 3 2 rfl
            have HE := Aside0.mk (HB.set 3 2 rfl (.slice (some ⟨gM, 0, none⟩) l0_1.length l0_1.length))
            have z0 := HE.out.cell 3 0 rfl rfl
            have z1 := HE.out.cell 3 1 rfl rfl
            have z2 := HE.out.cell 3 2 rfl rfl
            have hgne := Aside0.mk (held_ne HS (i := 1) (j := 2) rfl rfl (by decide))
            replace hFl := Aside0.mk hFl
            replace hMl := Aside0.mk hMl
            clear HA HB HS hml HR
            go_wp2
            refine ⟨rfl, .tuple #[.agg #[.slice (some ⟨gF, 0, none⟩) l0_2.length l0_2.length, .int .i64 d, .slice (some ⟨gM, 0, none⟩) l0_1.length l0_1.length], .int .i64 0], by simp [results, Try.f19, go_sem, z0, z1, z2], _, _, rfl, ?_, ?_, HE.out.bel⟩
            · exact Kd.R_reok rfl (HE.out.row 1 rfl _ hFl.out.symm (by have := hFl.out; omega)) (fun k hk hk2 => by simp only [Value.ownBlock, Option.map_some] at hk hk2; exact hgne.out (by injection hk.trans hk2))
            · exact Kd.R_reok rfl (HE.out.row 2 rfl _ hMl.out.symm (by have := hMl.out; omega)) (fun k hk hk2 => by simp only [Value.ownBlock, Option.map_some] at hk hk2; exact hgne.out (by injection (hk.trans hk2).symm))
  · have b1 : (c != (0 : Int)) = true := by simp [hz]
    have hr := h2.out
    rw [if_neg hz] at hr
    injection hr with hr
    injection hr with hr1 hr
    injection hr with hr2 hr
    injection hr with hr3 hr4
    subst hr1 hr2 hr3 hr4
    have g0 := H1.cell 0 0 rfl rfl
    have HA := H1.set 0 0 rfl (.slice none 0 0)
    have g1 := HA.cell 0 1 rfl rfl
    have fa := HA.free 0 1 rfl
    have HB := HA.set 0 1 rfl (.int .i64 0)
    have g2 := HB.cell 0 2 rfl rfl
    have fb := HB.free 0 2 rfl
    have HE := Aside0.mk (HB.set 0 2 rfl (.slice none 0 0))
    clear HA HB
    have z0 := HE.out.cell 0 0 rfl rfl
    have z1 := HE.out.cell 0 1 rfl rfl
    have z2 := HE.out.cell 0 2 rfl rfl
    replace H1 := Aside0.mk H1
    clear hz hcc hb1 h2 nd0 nd1 nd2
    go_wp2
    refine ⟨rfl, .tuple #[.agg #[.slice none 0 0, .int .i64 0, .slice none 0 0], .int .i64 c], by simp [results, Try.f19, go_sem, z0, z1, z2], .slice none 0 0, .slice none 0 0, rfl, Kd.R_nil _ _ _ _ _, Kd.R_nil _ _ _ _ _, HE.out.bel⟩

end Go.Proofs.Yteaimaafahpamaa.Hy
