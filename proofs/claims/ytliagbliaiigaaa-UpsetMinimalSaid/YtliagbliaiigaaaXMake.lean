/- By hand (up_makew, up_mkend): a part of this seat's proofs. -/
import Derived.Test.YtliagbliaiigaaaXMkParts
import Derived.Deep.LoopGhost
import Derived.WalkMore
namespace Go.Proofs.Ytliagbliaiigaaa.Hy
open Go.RowKit Go.Shelf Go.Proofs.YtliagbliaiigaaaW.PrintWords Go.Proofs.YtliagbliaiigaaaW.PrintLast Go.Proofs.YtliagbliaiigaaaW.PrintMore
set_option linter.unusedVariables false
set_option linter.unusedSimpArgs false
attribute [local go_sem] Oper.semAt_some
/-! ### upset.Make, walked -/
def MkPost (w : World) (l : List (List Int)) (e : Ending) (w' : World) : Prop :=
  ∃ v, e = .returned v ∧ Kd.S kM 28 w' w.heap.size (fun _ => True) v (makeL l) ∧ Below w.heap.size w w'
set_option maxRecDepth 100000 in
set_option maxHeartbeats 16000000 in
theorem make_calls (w : World) (A : Option Addr) (c : Nat) (l : List (List Int)) (hr : kM.C w A l.length l) (hc : l.length ≤ c) (hl : l.length ≤ 1000000) (hm : ∀ m ∈ l, m.length ≤ 1000000) :
    Calls Try.prog 13 #[.slice A l.length c] w (MkPost w l) := by
  have huse := Aside0.mk (usable_calls w A c l hr hc hl hm)
  have hus := Aside0.mk (fun m (h : m ∈ useL l) => (useL_mem h).2)
  have hul := useL_len l
  clear hr hm
  go_enter Try.func13, Try.ntmps13
  go_wp2
  go_step3
  go_wp2
  go_step3
  go_wp2_with (go_at_call 31; refine huse.out.mono ?_; rintro e w1 ⟨uv, rfl, hU, hB1⟩; obtain ⟨Au, cu, rfl, hcu, hCu⟩ := Kd.R_reads hU; replace hCu := Aside0.mk hCu; replace hB1 := Aside0.mk hB1; clear hU huse)
  obtain ⟨us, hus'⟩ : ∃ us, useL l = us := ⟨_, rfl⟩
  have hmk : Aside0 (makeL l = us.foldl stepL []) := ⟨by rw [makeL, hus']⟩
  rw [hus'] at hus hul hCu ⊢
  clear hus'
  have h0 : Aside0 (OutM w1 w1.heap.size (.slice none 0 0) []) := ⟨OutM.nil _ _⟩
  go_loopg [3, 13] us.length (fun kx v i wr => ∃ (j : Nat) (ps : List (Value × List Int)), i = .int .i64 j ∧ j ≤ us.length ∧ us.length - j ≤ kx ∧ Aside0 (Below w1.heap.size w1 wr) ∧ Aside0 (OutM wr w1.heap.size v ps) ∧ Aside0 (ps.map (·.2) = (us.take j).foldl stepL []))
  case atStart => exact ⟨0, [], rfl, Nat.zero_le _, by omega, ⟨Below.refl _ _⟩, h0, ⟨rfl⟩⟩
  case round =>
    clear h0
    obtain ⟨j, ps, rfl, hj, hkx, hB, hO, hfold⟩ := hrel
    by_cases hlt : j < us.length
    · have hpl : ps.length ≤ 1000000 := by
        have h1 := fold_len (us.take j) []
        rw [← hfold.out, List.length_map, List.length_take] at h1
        simp at h1
        omega
      obtain ⟨ad, ce, hAu, hcl, hk, hcs⟩ := ReadsRow.get_ (Kd.C_below hCu.out hB.out) ([] : List Int) (j : Int) (by omega) (by omega)
      subst hAu
      simp only [Int.toNat_natCast] at hk hcs
      obtain ⟨m, hmj⟩ : ∃ m, us.getD j [] = m := ⟨_, rfl⟩
      rw [hmj] at hk
      have hmem : m ∈ us := by rw [← hmj, List.getD_eq_getElem?_getD, List.getElem?_eq_getElem hlt]; exact List.getElem_mem hlt
      have hm1 := hus.out m hmem
      obtain ⟨Am, cm, hce, hcm, hKm⟩ := hk.2.2 wr (hB1.out.trans (hB.out.mono hB1.out.size))
      subst hce
      have gm : wr.cell? (ad.add j) = some (.slice Am m.length cm) := by simpa [Kd.slice, under] using hcs 0 _ rfl
      have hKW : Aside0 (∀ W, Below w.heap.size w W → (Kd.int .i64).C W Am m.length m) := ⟨fun W hW => by
        obtain ⟨A', c', e', _, h'⟩ := hk.2.2 W hW
        injection e' with e' _
        injection e' with e1 e2 e3
        rw [← e1] at h'
        exact h'⟩
      have htk : Aside0 (us.take (j + 1) = us.take j ++ [m]) := ⟨by rw [List.take_succ_eq_append_getElem hlt, ← hmj, List.getD_eq_getElem?_getD, List.getElem?_eq_getElem hlt]; rfl⟩
      have hAm : ∃ adm, Am = some adm := by
        obtain ⟨adm, h, _⟩ := int_at (hKW.out wr (hB1.out.trans (hB.out.mono hB1.out.size))) 0 (by omega)
        exact ⟨adm, h⟩
      obtain ⟨adm, rfl⟩ := hAm
      obtain ⟨Av, cv, hv, hcv, hvals⟩ := hO.out.form
      subst hv
      replace hvals := Aside0.mk hvals
      have hBw : Aside0 (Below w.heap.size w wr) := ⟨hB1.out.trans (hB.out.mono hB1.out.size)⟩
      replace hmj := Aside0.mk hmj
      clear hk hcs hcl hKm hmem
      obtain ⟨wo, hwo⟩ : ∃ wo, wo = wr := ⟨_, rfl⟩
      subst hwo
      go_wp2
      go_loopg [19] ps.length (fun ky i wr => ∃ q : Nat, i = .int .i64 q ∧ q ≤ ps.length ∧ ps.length - q ≤ ky ∧ Aside0 (Below wo.heap.size wo wr) ∧ Aside0 (∀ t, t < q → leqL ((ps.map (·.2)).getD t []) m = false))
      case atStart => exact ⟨0, rfl, Nat.zero_le _, by omega, ⟨Below.refl _ _⟩, ⟨fun t ht => by omega⟩⟩
      case round =>
        obtain ⟨q, rfl, hq, hky, hBi, hno⟩ := hrel
        have hOi : Aside0 (OutM wr w1.heap.size (.slice Av ps.length cv) ps) := ⟨hO.out.below hBi.out⟩
        have hBwi : Aside0 (Below w.heap.size w wr) := ⟨hBw.out.trans (hBi.out.mono hBw.out.size)⟩
        have hB1i : Aside0 (Below w1.heap.size w1 wr) := ⟨hB.out.trans (hBi.out.mono hB.out.size)⟩
        by_cases hql : q < ps.length
        · obtain ⟨Ax, cx, hvx, hcx, hCx, hx24⟩ := hOi.out.at_ q hql
          obtain ⟨av, hav, gx⟩ := hvals.out q (by rw [List.length_map]; exact hql)
          subst hav
          rw [show (Value.slice none 0 0) = nilV from rfl, hvx] at gx
          replace gx := pw_cell_below hBi.out gx
          obtain ⟨x, hx⟩ : ∃ x, (ps.map (·.2)).getD q [] = x := ⟨_, rfl⟩
          rw [hx] at gx hcx hCx hx24
          have hcall := marking_Leq.calls _ Ax cx x (some adm) cm m _ wr hCx hcx (hKW.out wr hBwi.out) hcm (leq_at x m (by omega))
          obtain ⟨b, hb⟩ : ∃ b, leqL x m = b := ⟨_, rfl⟩
          rw [hb] at hcall
          replace hcall := Aside0.mk hcall
          replace hb := Aside0.mk hb
          replace hx := Aside0.mk hx
          have hql2 := Aside0.mk hql
          clear hCx hvx
          cases b with
          | false =>
            go_wp2_with (go_at_call 32; refine hcall.out.mono ?_; rintro e w' ⟨rfl, hd⟩; have hBi2 := Aside0.mk (hBi.out.trans (hd.below.mono hBi.out.size)); clear hd)
            go_roundg (ps.length - (q + 1))
            case measure => omega
            case rel => exact ⟨q + 1, by go_num, hql2.out, Nat.le_refl _, hBi2, ⟨fun t ht => by
              rcases Nat.lt_or_ge t q with h | h
              · exact hno.out t h
              · obtain rfl : t = q := by omega
                rw [hx.out]; exact hb.out⟩⟩
          | true =>
            go_wp2_with (go_at_call 32; refine hcall.out.mono ?_; rintro e w' ⟨rfl, hd⟩; have hB2 := Aside0.mk (hB1i.out.trans (hd.below.mono hB1i.out.size)); have hO2 := Aside0.mk (hOi.out.below hd.below); clear hd)
            go_roundg (us.length - (j + 1))
            case measure => omega
            case rel =>
              refine ⟨j + 1, ps, by go_num, hlt, Nat.le_refl _, hB2, hO2, ⟨?_⟩⟩
              rw [htk.out, List.foldl_append, ← hfold.out, List.foldl_cons, List.foldl_nil, stepL, if_pos]
              rw [List.any_eq_true]
              refine ⟨x, ?_, hb.out⟩
              rw [← hx.out, List.getD_eq_getElem?_getD, List.getElem?_eq_getElem (by rw [List.length_map]; exact hql2.out)]
              exact List.getElem_mem _
        · obtain rfl : q = ps.length := by omega
          have hown := hOi.out.own
          have hOld : ∀ k, Old (.slice Av ps.length cv) k → w1.heap.size ≤ k := fun k hk => own_base hown k hk.symm
          have hdel := deleteFunc_own wr w1.heap.size (.slice Av ps.length cv) (ps.map (·.1)) 34 #[.slice (some adm) m.length cm] #[] (fun i => !(fun x => !leqL m x) ((ps.map (·.2)).getD i [])) (by rw [List.length_map]; exact hown)
            (fun i W hi hC => by
              rw [List.length_map] at hi
              obtain ⟨Ax, cx, hvx, hcx, hCx, hx24⟩ := hOi.out.at_ i hi
              have hel := el_chg (hOi.out.el _ (List.getElem_mem hi)) hown hC
              have e1 : (ps.map (·.1)).getD i nilV = ps[i].1 := by simp [List.getD_eq_getElem?_getD, List.getElem?_eq_getElem hi]
              have e2 : (ps.map (·.2)).getD i [] = ps[i].2 := by simp [List.getD_eq_getElem?_getD, List.getElem?_eq_getElem hi]
              rw [e1] at hvx ⊢
              rw [e2] at hvx hcx hx24 ⊢
              obtain ⟨A', c', e', hc', hC'⟩ := Kd.R_reads hel
              rw [e']
              have hbel : Below w.heap.size w W := hBwi.out.trans (hC.below (Nat.le_trans hBw.out.size hBi.out.size) (fun k hk => Nat.le_trans hB1.out.size (hOld k hk)))
              refine (below_calls W (some adm) cm m A' c' ps[i].2 (hKW.out W hbel) hcm hC' hc' (by omega)).mono ?_
              rintro e w' ⟨rfl, hq⟩
              exact ⟨by simp, hq⟩)
            (by rw [List.length_map]; exact hpl)
            (fun i hi => by
              rw [List.length_map] at hi
              obtain ⟨Ax, cx, hvx, _⟩ := hOi.out.at_ i hi
              exact ⟨_, _, _, hvx⟩)
            (enters_of Try.func34 (by kernel_rfl) rfl)
          rw [List.length_map, kept_filter (fun x => !leqL m x) ps] at hdel
          replace hdel := Aside0.mk hdel
          have hOld2 := Aside0.mk hOld
          clear hown hOld
          go_wp2_with fail
          refine hdel.out.mono ?_
          rintro e w2 ⟨v1, rfl, ho1, hc1, hob1⟩
          rw [List.length_map] at ho1
          have hO1 := hOi.out.del hc1 (fun x => !leqL m x) ho1
          obtain ⟨ps1, hps1⟩ : ∃ ps1, ps.filter (fun p => (fun x => !leqL m x) p.2) = ps1 := ⟨_, rfl⟩
          rw [hps1] at hO1
          have hx1 : ps1.map (·.2) = ((us.take j).foldl stepL []).filter (fun x => !leqL m x) := by
            rw [← hfold.out, ← hps1, List.filter_map]; rfl
          have hp1l : ps1.length ≤ 1000000 := by rw [← hps1]; exact Nat.le_trans (List.length_filter_le _ _) hpl
          have hs1 : Sorted (ps1.map (·.2)) := by
            rw [hx1]; exact (fold_sorted (us.take j) [] List.Pairwise.nil).filter _
          have hB2 : Below w.heap.size w w2 := hBwi.out.trans (hc1.below (Nat.le_trans hBw.out.size hBi.out.size) (fun k hk => Nat.le_trans hB1.out.size (hOld2.out k hk)))
          have hB12 : Below w1.heap.size w1 w2 := hB1i.out.trans (hc1.below hB1i.out.size (fun k hk => hOld2.out k hk))
          obtain ⟨A1, c1, hv1, hcv1, hvals1⟩ := hO1.form
          subst hv1
          have hbs := bsearch_in w2 A1 c1 (ps1.map (·.1)) (.slice (some adm) m.length cm) 36 (fun i => cmpL ((ps1.map (·.2)).getD i []) m) hvals1
            (fun i W hi hb => by
              rw [List.length_map] at hi
              obtain ⟨Ax, cx, hvx, hcx, hCx, hx24⟩ := hO1.at_ i hi
              rw [hvx]
              exact marking_Compare.calls _ Ax cx _ (some adm) cm m _ W (Kd.C_below hCx hb) hcx (hKW.out W (hB2.trans (hb.mono hB2.size))) hcm (cmp_at _ m (by omega) (by omega)))
            (by rw [List.length_map]; exact hp1l)
            (fun i j hij hj h => sorted_mono hs1 m i j hij (by rw [List.length_map] at hj ⊢; exact hj) h)
            (enters_of Try.func36 (by kernel_rfl) rfl)
          rw [List.length_map] at hbs
          replace hbs := Aside0.mk hbs
          have hO1a := Aside0.mk hO1
          have hB2a := Aside0.mk hB2
          have hB12a := Aside0.mk hB12
          have hx1a := Aside0.mk hx1
          clear hdel ho1 hc1 hob1 hO1 hps1 hx1 hs1 hB2 hB12 hvals1
          go_wp2_with fail
          refine hbs.out.mono ?_
          rintro e w3 ⟨k, bb, rfl, hk, hlo, hhi, hb3⟩
          have hpos : posL (ps1.map (·.2)) m = k := posL_eq (by rw [List.length_map]; exact hk) hlo (fun i h1 h2 => hhi i h1 (by rw [List.length_map] at h2; exact h2))
          have hB3 := Aside0.mk (hB2a.out.trans (hb3.mono hB2a.out.size))
          have hB13 := Aside0.mk (hB12a.out.trans (hb3.mono hB12a.out.size))
          have hO3 := Aside0.mk (hO1a.out.below hb3)
          have hcl := Aside0.mk (clone_in w3 adm cm m (hKW.out w3 hB3.out) hm1.1 (by omega))
          replace hpos := Aside0.mk hpos
          clear hbs hlo hhi hb3 hO1a hB2a hB12a
          go_wp2_with fail
          refine hcl.out.mono ?_
          rintro e w4 ⟨cv4, rfl, hR4, hb4⟩
          obtain ⟨A4, c4, hv4, hcv4, hC4⟩ := Kd.R_reads hR4
          subst hv4
          obtain ⟨W5, hW5⟩ : ∃ W5, W5 = w4.alloc (.cells #[.slice A4 m.length c4] 28) := ⟨_, rfl⟩
          have hb5 : Below w4.heap.size w4 W5 := by rw [hW5]; exact below_alloc (Below.refl _ _) _
          have hO5 := (hO3.out.below hb4).below hb5
          have hV5 : W5.heap[w4.heap.size]? = some (.cells #[.slice A4 m.length c4] 28 (0, 0)) := by rw [hW5]; exact blk_new w4 _
          have hR5 := Kd.R_lower (Kd.R_below hR4 hb5) hB13.out.size
          have hB5 := hB13.out.trans ((hb4.trans (hb5.mono hb4.size)).mono hB13.out.size)
          have hs45 : w1.heap.size ≤ w4.heap.size := Nat.le_trans hB13.out.size hb4.size
          have hs55 : w4.heap.size ≤ W5.heap.size := hb5.size
          have hlt3 : ∀ k, (Value.slice A1 ps1.length c1).ownBlock = some k → k < w3.heap.size := own_lt hO3.out.own
          have hins := insert_own W5 w1.heap.size w4.heap.size k (.slice A1 ps1.length c1) (ps1.map (·.1)) (.slice A4 m.length c4) (by rw [List.length_map]; exact hO5.own) hV5
            (fun e => by have := hlt3 _ e.symm; have := hb4.size; omega) (by rw [List.length_map]; exact hk) (by omega) (by rw [List.length_map]; exact hp1l) hO5.one rfl
          have hapm : ∀ p ∈ ps1, p.1.ownBlock ≠ (Value.slice A4 m.length c4).ownBlock := by
            intro p hp e
            have hel := hO3.out.el p hp
            obtain ⟨inner, ho⟩ := Kd.R_own hel
            obtain ⟨inner4, ho4⟩ := Kd.R_own hR4
            have hfm := Kd.R_form hR4 hm1.1
            obtain ⟨g4, cap4, e4, hg4, _⟩ := hfm
            rw [e4] at e
            have := own_lt ho g4 (by rw [e]; rfl)
            omega
          have hmk2 : stepL ((us.take j).foldl stepL []) m = (ps1.map (·.2)).take k ++ m :: (ps1.map (·.2)).drop k := by
            rw [stepL, if_neg, ← hx1a.out, hpos.out]
            rw [List.any_eq_true]
            rintro ⟨x, hx, hxm⟩
            rw [← hfold.out] at hx
            obtain ⟨t, ht, rfl⟩ := List.getElem_of_mem hx
            have := hno.out t (by simpa using ht)
            rw [List.getD_eq_getElem?_getD, List.getElem?_eq_getElem ht] at this
            simp only [Option.getD_some] at this
            rw [hxm] at this
            cases this
          replace hins := Aside0.mk hins
          replace hO5 := Aside0.mk hO5
          replace hR5 := Aside0.mk hR5
          replace hB5 := Aside0.mk hB5
          replace hapm := Aside0.mk hapm
          replace hmk2 := Aside0.mk hmk2
          have hs5 := Aside0.mk (Nat.le_trans hs45 hs55)
          have hbase5 : Aside0 (∀ k, Old (.slice A1 ps1.length c1) k → w1.heap.size ≤ k) := ⟨fun k hk => own_base hO3.out.own k hk.symm⟩
          subst hW5
          clear hcl hR4 hb4 hC4 hb5 hV5 hs45 hs55 hlt3 hO3
          go_wp2_with fail
          refine hins.out.mono ?_
          rintro e w6 ⟨v6, rfl, ho6, hc6, hob6⟩
          have hO6 := hO5.out.ins hc6 k (.slice A4 m.length c4) m hR5.out ⟨hm1.1, hm1.2.1⟩ hapm.out ho6
          have hB6 : Below w1.heap.size w1 w6 := hB5.out.trans (hc6.below hs5.out (fun k hk => hbase5.out k hk))
          have hx6 : (ps1.take k ++ ((Value.slice A4 m.length c4), m) :: ps1.drop k).map (·.2) = (us.take (j + 1)).foldl stepL [] := by
            rw [htk.out, List.foldl_append, List.foldl_cons, List.foldl_nil, hmk2.out]; simp
          obtain ⟨ps6, hps6⟩ : ∃ ps6, ps1.take k ++ ((Value.slice A4 m.length c4), m) :: ps1.drop k = ps6 := ⟨_, rfl⟩
          rw [hps6] at hO6 hx6
          replace hO6 := Aside0.mk hO6
          replace hB6 := Aside0.mk hB6
          replace hx6 := Aside0.mk hx6
          clear hps6 ho6 hc6 hob6 hins
          go_wp2
          go_roundg (us.length - (j + 1))
          case measure => omega
          case rel => exact ⟨j + 1, ps6, by go_num, hlt, Nat.le_refl _, hB6, hO6, hx6⟩
    · obtain rfl : j = us.length := by omega
      go_wp2
      try rw [Exit.noGoto_ret]
      go_ret
      refine ⟨_, rfl, ?_, hB1.out.trans (hB.out.mono hB1.out.size)⟩
      have := hO.out.share
      rw [hfold.out, List.take_length, ← hmk.out] at this
      exact Kd.S_lower this hB1.out.size

def okIn (l : List (List Int)) : Prop := l.length ≤ 1000000 ∧ ∀ m ∈ l, m.length ≤ 1000000
instance (l : List (List Int)) : Decidable (okIn l) := by unfold okIn; infer_instance
/-- what Make answers -/
def upset_Make.f (l0 : List (List Int)) : Option (List (List Int)) := if okIn l0 then some (makeL l0) else none
theorem upset_Make.calls (A0 : Option Addr) (c0 : Nat) (l0 : List (List Int)) (r : List (List Int)) (w : World) (hr0 : Kd.C (Kd.slice 3 (Kd.int .i64)) w A0 l0.length l0) (hc0 : l0.length ≤ c0) (h : upset_Make.f l0 = some r) :
    Calls Try.prog 13 #[.slice A0 l0.length c0] w fun e w' => ∃ v0_ : Value, e = .returned (v0_) ∧ Kd.S (Kd.slice 3 (Kd.int .i64)) 28 w' w.heap.size (fun _ => True) v0_ r ∧ Below w.heap.size w w' := by
  unfold upset_Make.f at h
  split at h
  · rename_i hok
    injection h with h
    subst h
    exact make_calls w A0 c0 l0 hr0 hc0 hok.1 hok.2
  · cases h
theorem makeL_mem {l : List (List Int)} {m : List Int} (h : m ∈ makeL l) : m ∈ l ∧ 1 ≤ m.length ∧ m.length ≤ 24 ∧ vldL m = true := by
  rcases fold_mem _ _ _ h with h | h
  · cases h
  · exact useL_mem h
theorem makeL_len (l : List (List Int)) : (makeL l).length ≤ l.length := by
  have h1 := fold_len (useL l) []
  have h2 := useL_len l
  unfold makeL
  simp at h1
  omega
theorem makeL_ok {l : List (List Int)} (h : okIn l) : okIn (makeL l) :=
  ⟨Nat.le_trans (makeL_len l) h.1, fun m hm => by have := (makeL_mem hm).2.2.1; omega⟩

end Go.Proofs.Ytliagbliaiigaaa.Hy
