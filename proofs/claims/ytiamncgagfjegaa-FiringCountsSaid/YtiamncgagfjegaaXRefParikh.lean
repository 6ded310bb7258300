/- By hand (ref_parikh): a part of this seat's proofs. -/
import Derived.Test.YtiamncgagfjegaaXRefChk
namespace Go.Proofs.Ytiamncgagfjegaa.Hy
open Go.RowKit Go.Shelf Go.Proofs.YtiamncgagfjegaaW.PrintWords Go.Proofs.YtiamncgagfjegaaW.PrintLast Go.Proofs.YtiamncgagfjegaaW.PrintMore
set_option linter.unusedVariables false
set_option linter.unusedSimpArgs false
attribute [local go_sem] Oper.semAt_some
/-! ### petrinetref11.Parikh -/
theorem infoInt64 : (Try.prog.info? 2).map (fun i => (i.zero, i.size, i.bytes)) = some (some (.int .i64 0), 1, 8) := by kernel_rfl
theorem row_fresh64 {W : World} {B g n : Nat} {x : List Int} (hb : B ≤ g) (hg : W.heap[g]? = some (.cells (nums .i64 x).toArray 2 (0, 0))) (hn' : n = x.length) (hn : x.length ≤ 9223372036854775807) :
    Kd.R (Kd.int .i64) 2 W B (fun _ => True) (.slice (some ⟨g, 0, none⟩) n n) x := by
  subst hn'
  refine Kd.R_of_own ?_ (fun _ _ => trivial)
  refine ⟨by simp [encs], .inr ⟨g, x.length, (nums .i64 x).toArray, rfl, hb, hg, Nat.le_refl _, by simp only [maxLen]; omega, by simp [nums], ?_⟩⟩
  simp only [nums, encs]
  rw [List.take_of_length_le (by simp)]
theorem drop_rdI' {l : List Int} {i : Nat} (h : i < l.length) : l.drop i = rd l (i : Int) :: l.drop (i + 1) := by
  rw [rd, Int.toNat_natCast, List.getD_eq_getElem?_getD, List.getElem?_eq_getElem h]; exact List.drop_eq_getElem_cons h
def parL (n : Nat) : List Int → List Int → List Int × Int
  | o, [] => (o, 0)
  | o, t :: r => if t < 0 ∨ (n : Int) ≤ t then ([], 1) else parL n (o.set t.toNat (wrap64 (rd o t + 1))) r
def parR (nm : ByteArray) (ps : List S55) (ts : List S58) (seq : List Int) : List Int × Int :=
  if (chkNet nm ps ts).1 ≠ 0 then ([], (chkNet nm ps ts).1) else parL ts.length (List.replicate ts.length 0) seq
def parH (b f : Nat) (nm : ByteArray) (A1 : Option Addr) (n1 c1 : Nat) (A2 : Option Addr) (n2 c2 : Nat) (o : List Int) : List (Nat × Obj) :=
  [(f, .cells (nums .i64 o).toArray 2 (0, 0)), (b, .cells #[.string nm, .slice A1 n1 c1, .slice A2 n2 c2] 25 (0, 0))]
set_option maxRecDepth 100000 in
set_option maxHeartbeats 8000000 in
theorem refParikh_in (nm : ByteArray) (A1 : Option Addr) (c1 : Nat) (ps : List S55) (A2 : Option Addr) (c2 : Nat) (ts : List S58) (As : Option Addr) (cs : Nat) (seq : List Int) (w : World) (hp : Kd.C k55 w A1 ps.length ps) (hc1 : ps.length ≤ c1) (hts : Kd.C k58 w A2 ts.length ts) (hc2 : ts.length ≤ c2) (hs : Kd.C (Kd.int .i64) w As seq.length seq) (hl : ts.length ≤ 1000) :
    Calls Try.prog 28 #[.agg #[.string nm, .slice A1 ps.length c1, .slice A2 ts.length c2], .slice As seq.length cs] w fun e w' => ∃ v, e = .returned (.tuple #[v, .int .i64 (parR nm ps ts seq).2]) ∧ Kd.R (Kd.int .i64) 2 w' w.heap.size (fun _ => True) v (parR nm ps ts seq).1 ∧ Below w.heap.size w w' := by
  have hms := Kd.C_max hs
  have hmt := Kd.C_max hts
  have H0 := (Held.refl w).push (.cells #[.string nm, .slice A1 ps.length c1, .slice A2 ts.length c2] 25)
  obtain ⟨W0, hW0⟩ : ∃ W0, w.alloc (.cells #[.string nm, .slice A1 ps.length c1, .slice A2 ts.length c2] 25) = W0 := ⟨_, rfl⟩
  rw [hW0] at H0
  have hchk := Aside0.mk (petrinetref09_Check.calls nm A1 c1 ps A2 c2 ts (chkNet nm ps ts).1 (chkNet nm ps ts).2 W0 (Kd.C_below hp H0.bel) hc1 (Kd.C_below hts H0.bel) hc2 rfl)
  have n0 := H0.cell 0 0 rfl rfl
  have n1 := H0.cell 0 1 rfl rfl
  have n2 := H0.cell 0 2 rfl rfl
  obtain ⟨⟨ro, re⟩, hr⟩ : ∃ r, parR nm ps ts seq = r := ⟨_, rfl⟩
  rw [hr]
  obtain ⟨⟨ce, ca⟩, hce⟩ : ∃ c, chkNet nm ps ts = c := ⟨_, rfl⟩
  rw [hce] at hchk
  rw [parR, hce] at hr
  replace hr := Aside0.mk hr
  replace H0 := Aside0.mk H0
  replace hW0 := Aside0.mk hW0
  clear hce
  go_enter Try.func28, Try.ntmps28
  go_wp2_with fail
  rw [hW0.out]
  refine hchk.out.mono ?_
  rintro e W1 ⟨rfl, hb⟩
  have H1 := (H0.out.below hb).push (.cells #[.int .i64 ce, .int .i64 ca] 38)
  have H1b := H0.out.below hb
  clear hchk hb H0 n0 n1 n2 hW0
  have e0 := H1.cell 0 0 rfl rfl
  have n2 := H1.cell 1 2 rfl rfl
  replace H1b := Aside0.mk H1b
  by_cases hz : ce = 0
  · have b1 : (ce != (0 : Int)) = false := by simp [hz]
    have hr2 := hr.out
    rw [if_neg (by simp [hz])] at hr2
    replace hr2 := Aside0.mk hr2
    have H2 := (H1b.out.alloc (.cells #[.int .i64 ce, .int .i64 ca] 38)).push (.cells (madeCells #[.int .i64 0] ts.length) 2)
    simp only [World.size_alloc] at H2
    obtain ⟨W2, hW2⟩ : ∃ W2, (W1.alloc (.cells #[.int .i64 ce, .int .i64 ca] 38)).alloc (.cells (madeCells #[.int .i64 0] ts.length) 2) = W2 := ⟨_, rfl⟩
    rw [hW2, made_nums] at H2
    replace H2 := Aside0.mk (show Held w (parH w.heap.size (W1.heap.size + 1) nm A1 ps.length c1 A2 ts.length c2 (List.replicate ts.length 0)) W2 from H2)
    replace hW2 := Aside0.mk hW2
    have hmk := print_make (P := Try.prog) 44 2 .i64 8 Try.underlying44 infoInt64 (by decide) ts.length (by omega)
    have hfl := Aside0.mk (show w.heap.size ≤ W1.heap.size + 1 from Nat.le_succ_of_le H1b.out.size)
    clear hz hr H1 H1b
    go_wp2
    rw [hW2.out]
    clear hW2 e0 n2 hmk
    obtain ⟨fb, hfb⟩ : ∃ fb, W1.heap.size + 1 = fb := ⟨_, rfl⟩
    simp only [hfb] at H2 hfl ⊢
    clear hfb
    go_loopw [8] (fun v wr => ∃ (j : Nat) (o : List Int), v = .int .i64 j ∧ j ≤ seq.length ∧ Aside0 (o.length = ts.length) ∧ Aside0 (Held w (parH w.heap.size fb nm A1 ps.length c1 A2 ts.length c2 o) wr) ∧ Aside0 (parL ts.length o (seq.drop j) = (ro, re))) (fun v _ => seq.length - (intOf v).toNat)
    case atStart => exact ⟨0, _, rfl, Nat.zero_le _, ⟨by simp⟩, H2, hr2⟩
    case round =>
      clear H2 hr2
      obtain ⟨j, o, rfl, hj, ho, hH, hgo⟩ := hrel
      have n2 := hH.out.cell 1 2 rfl rfl
      by_cases hlt : j < seq.length
      · obtain ⟨ad, hAs, hc⟩ := int_at (Kd.C_below hs hH.out.bel) j hlt
        subst hAs
        rw [show seq.getD j 0 = rd seq (j : Int) by simp [rd]] at hc
        have hg := hgo.out
        rw [drop_rdI' hlt, parL] at hg
        obtain ⟨t, ht⟩ : ∃ t, rd seq (j : Int) = t := ⟨_, rfl⟩
        rw [ht] at hc hg
        have hlt2 := Aside0.mk (show j + 1 ≤ seq.length from hlt)
        have htA := Aside0.mk ht
        have fin : Aside0 (∀ n, Below w.heap.size w (wr.drewN n)) := ⟨fun n => (hH.out.drewN n).bel⟩
        clear ht hgo
        by_cases h1 : t < 0
        · have d1 : decide (t < 0) = true := decide_eq_true h1
          rw [if_pos (.inl h1)] at hg
          injection hg with hg1 hg2
          subst hg1 hg2
          clear h1
          go_wp2
          go_quiet (fail)
          go_wp2
          go_ret2
          exact ⟨_, rfl, Kd.R_nil _ _ _ _ _, fin.out _⟩
        · have d1 : decide (t < 0) = false := decide_eq_false h1
          by_cases h2 : (ts.length : Int) ≤ t
          · have d2 : decide ((ts.length : Int) ≤ t) = true := decide_eq_true h2
            rw [if_pos (.inr h2)] at hg
            injection hg with hg1 hg2
            subst hg1 hg2
            clear h1 h2
            go_wp2
            go_quiet (fail)
            go_wp2
            go_ret2
            exact ⟨_, rfl, Kd.R_nil _ _ _ _ _, fin.out _⟩
          · have d2 : decide ((ts.length : Int) ≤ t) = false := decide_eq_false h2
            rw [if_neg (by omega)] at hg
            obtain ⟨q, rfl⟩ := Int.eq_ofNat_of_zero_le (show 0 ≤ t by omega)
            have hq : q < ts.length := by omega
            replace hg := Aside0.mk hg
            clear h1 h2
            go_wp2
            go_quiet (fail)
            have HH := Aside0.mk (hH.out.drewN nq)
            obtain ⟨W, hW⟩ : ∃ W, wr.drewN nq = W := ⟨_, rfl⟩
            rw [hW] at HH ⊢
            clear hW hH n2 fin hc
            obtain ⟨ad', hAs', hc⟩ := int_at (Kd.C_below hs HH.out.bel) j hlt
            cases hAs'
            rw [show seq.getD j 0 = rd seq (j : Int) by simp [rd], htA.out] at hc
            have hqo : q < o.length := by rw [ho.out]; exact hq
            have hx := HH.out.num 0 q rfl hqo
            have hfz := HH.out.free 0 q rfl
            have hset := HH.out.setN 0 q rfl (wrap64 (rd o (q : Int) + 1))
            rw [show o.getD q 0 = rd o (q : Int) by simp [rd]] at hx
            obtain ⟨y, hy⟩ : ∃ y, rd o (q : Int) = y := ⟨_, rfl⟩
            rw [hy] at hx hset
            have hg2 := hg.out
            rw [hy, Int.toNat_natCast] at hg2
            replace hg2 := Aside0.mk hg2
            replace hset := Aside0.mk hset
            have ho2 := Aside0.mk (show (o.set q (wrap64 (y + 1))).length = ts.length by rw [List.length_set]; exact ho.out)
            clear hg hy htA HH
            go_wp2
            go_roundw
            case rel => exact ⟨j + 1, _, by go_num, hlt2.out, ho2, hset, hg2⟩
            case measure => have := hlt2.out; simp [intOf]; omega
      · obtain rfl : j = seq.length := by omega
        have hg := hgo.out
        rw [List.drop_length, parL] at hg
        injection hg with hg1 hg2
        subst hg1 hg2
        clear hgo
        go_wp2
        go_ret2
        have hrow := hH.out
        refine ⟨_, rfl, ?_, hH.out.bel⟩
        exact row_fresh64 hfl.out (hH.out.blk 0 rfl) ho.out.symm (by rw [ho.out]; omega)
  · have b1 : (ce != (0 : Int)) = true := by simp [hz]
    have hr2 := hr.out
    rw [if_pos hz] at hr2
    injection hr2 with h1 h2
    subst h1 h2
    have hbel := Aside0.mk H1.drew.bel
    clear hz hr H1 n2
    go_wp2
    go_region
    all_goals
      go_wp2
      go_ret2
      exact ⟨_, rfl, Kd.R_nil _ _ _ _ _, hbel.out⟩
def petrinetref11_Parikh.f (a0_0 : ByteArray) (l0_1 : List (S55)) (l0_2 : List (S58)) (l1 : List Int) : Option (List Int × Int) := if l0_2.length ≤ 1000 then some (parR a0_0 l0_1 l0_2 l1) else none
theorem petrinetref11_Parikh.calls (a0_0 : ByteArray) (A0_1 : Option Addr) (c0_1 : Nat) (l0_1 : List (S55)) (A0_2 : Option Addr) (c0_2 : Nat) (l0_2 : List (S58)) (A1 : Option Addr) (c1 : Nat) (l1 : List Int) (r1 : List Int) (r2 : Int) (w : World) (hr0_1 : Kd.C k55 w A0_1 l0_1.length l0_1) (hc0_1 : l0_1.length ≤ c0_1) (hr0_2 : Kd.C k58 w A0_2 l0_2.length l0_2) (hc0_2 : l0_2.length ≤ c0_2) (hr1 : Kd.C (Kd.int .i64) w A1 l1.length l1) (hc1 : l1.length ≤ c1) (h : petrinetref11_Parikh.f a0_0 l0_1 l0_2 l1 = some (r1, r2)) :
    Calls Try.prog 28 #[.agg #[.string a0_0, .slice A0_1 l0_1.length c0_1, .slice A0_2 l0_2.length c0_2], .slice A1 l1.length c1] w fun e w' => ∃ v0_ : Value, e = .returned (.tuple #[v0_, .int .i64 r2]) ∧ Kd.R (Kd.int .i64) 2 w' w.heap.size (fun _ => True) v0_ r1 ∧ Below w.heap.size w w' := by
  rw [petrinetref11_Parikh.f] at h
  by_cases hl : l0_2.length ≤ 1000
  · rw [if_pos hl] at h
    have hc := refParikh_in a0_0 A0_1 c0_1 l0_1 A0_2 c0_2 l0_2 A1 c1 l1 w hr0_1 hc0_1 hr0_2 hc0_2 hr1 hl
    rw [Option.some.inj h] at hc
    exact hc
  · rw [if_neg hl] at h; simp at h

end Go.Proofs.Ytiamncgagfjegaa.Hy
