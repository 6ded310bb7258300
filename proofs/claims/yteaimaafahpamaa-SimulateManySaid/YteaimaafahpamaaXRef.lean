/- By hand (ref_ready, ref_after, ref_small): a part of this seat's proofs. -/
import Derived.Test.YteaimaafahpamaaXBase
import Derived.Test.YteaimaafahpamaaXCheck
import Derived.Test.YteaimaafahpamaaH0
import Derived.Test.YteaimaafahpamaaM2
namespace Go.Proofs.Yteaimaafahpamaa.Hy
open Go.RowKit Go.Shelf Go.Proofs.YteaimaafahpamaaW.PrintWords Go.Proofs.YteaimaafahpamaaW.PrintLast Go.Proofs.YteaimaafahpamaaW.PrintMore
set_option linter.unusedVariables false
set_option linter.unusedSimpArgs false
attribute [local go_sem] Oper.semAt_some
/-! ### petrinetref11.weight, Ready -/
def wt : List S70 → Int → Int
  | [], _ => 0
  | a :: l, p => if a.f0 = p then a.f1 else wt l p
theorem weight_ev (l : List S70) (p : Int) (hl : l.length ≤ 9223372036854775807) : Ev (fun k => petrinetref11_weight.f k l p) (wt l p) := by
  have main : ∀ (m i : Nat), i + m = l.length → Ev (fun k => petrinetref11_weight.l0 k l p i) (wt (l.drop i) p) := by
    intro m
    induction m with
    | zero =>
      intro i hi
      refine Ev.up ?_
      simp only [petrinetref11_weight.l0, if_neg (show ¬ (i : Int) < (l.length : Int) by omega)]
      rw [List.drop_of_length_le (by omega)]
      exact Ev.of fun _ => rfl
    | succ m ih =>
      intro i hi
      have hlt : i < l.length := by omega
      rw [rdA_drop hlt, wt]
      refine Ev.up ?_
      simp only [petrinetref11_weight.l0, if_pos (show (i : Int) < (l.length : Int) by omega), if_pos (show (0 : Int) ≤ (i : Int) by omega), w_succ (show i < 9223372036854775807 by omega)]
      by_cases h : (rd_T70 l (i : Int)).f0 = p
      · simp only [if_pos h]; exact Ev.of fun _ => rfl
      · simp only [if_neg h]; exact ih (i + 1) (by omega)
  exact main l.length 0 (by omega)
def rfAfter (t : S68) (m : List Int) (p : Int) : Int := wrap64 (wrap64 (rd m p - wt t.f1 p) + wt t.f2 p)
def rfBad (ps : List S65) (t : S68) (m : List Int) (p : Nat) : Bool :=
  decide (rd m p < wt t.f1 p) || (decide (0 < wt t.f3 p) && decide (wt t.f3 p ≤ rd m p)) || (decide (0 < (rd_T65 ps p).f2) && decide ((rd_T65 ps p).f2 < rfAfter t m p))
def rfReady (ps : List S65) (t : S68) (m : List Int) : Bool := (List.range ps.length).all fun p => !rfBad ps t m p
theorem rfReady_no {ps : List S65} {t : S68} {m : List Int} {p : Nat} (hp : p < ps.length) (h : rfBad ps t m p = true) : rfReady ps t m = false := by
  rw [rfReady, List.all_eq_false]; exact ⟨p, by simpa using hp, by simp [h]⟩
set_option maxRecDepth 100000 in
set_option maxHeartbeats 8000000 in
theorem refReady_calls (nm : ByteArray) (A1 : Option Addr) (c1 : Nat) (ps : List S65) (A2 : Option Addr) (c2 : Nat) (ts : List S68) (Am : Option Addr) (cm : Nat) (m : List Int) (ti : Nat) (w : World)
    (hp : Kd.C k65 w A1 ps.length ps) (hts : Kd.C k68 w A2 ts.length ts) (hm : Kd.C (Kd.int .i64) w Am m.length m) (hti : ti < ts.length) (hl : ps.length ≤ m.length) :
    Calls Try.prog 45 #[.agg #[.string nm, .slice A1 ps.length c1, .slice A2 ts.length c2], .slice Am m.length cm, .int .i64 ti] w fun e w' =>
      e = .returned (.bool (rfReady ps (rd_T68 ts (ti : Int)) m)) ∧ Below w.heap.size w w' := by
  have hbN := below_alloc (Below.refl w.heap.size w) (.cells #[.string nm, .slice A1 ps.length c1, .slice A2 ts.length c2] 25)
  obtain ⟨ad, B1, e1, B2, e2, B3, e3, hA, q0, q1, q2, q3, q4, n1', m1, n2', m2, n3', m3⟩ := at_T68 (Kd.C_below hts hbN) (ti : Int) (by omega) (by omega)
  subst hA
  simp only [Int.toNat_natCast] at q0 q1 q2 q3 q4
  obtain ⟨x, hx⟩ : ∃ x, rd_T68 ts (ti : Int) = x := ⟨_, rfl⟩
  rw [hx] at q0 q1 q2 q3 q4 n1' m1 n2' m2 n3' m3 ⊢
  have hmx := Kd.C_max hp
  have hmxt := Kd.C_max hts
  have H0 := ((Held.refl w).push (.cells #[.string nm, .slice A1 ps.length c1, .slice (some ad) ts.length c2] 25)).push (.cells #[.string x.f0, .slice B1 x.f1.length e1, .slice B2 x.f2.length e2, .slice B3 x.f3.length e3, .int .i64 x.f4] 68)
  obtain ⟨W0, hW0⟩ : ∃ W0, (w.alloc (.cells #[.string nm, .slice A1 ps.length c1, .slice (some ad) ts.length c2] 25)).alloc (.cells #[.string x.f0, .slice B1 x.f1.length e1, .slice B2 x.f2.length e2, .slice B3 x.f3.length e3, .int .i64 x.f4] 68) = W0 := ⟨_, rfl⟩
  rw [hW0] at H0
  simp only [World.size_alloc] at H0
  have g0 := H0.cell 1 1 rfl rfl
  have t1 := H0.cell 0 1 rfl rfl
  have t2 := H0.cell 0 2 rfl rfl
  have t3 := H0.cell 0 3 rfl rfl
  have mm1 := Kd.C_max m1
  have mm2 := Kd.C_max m2
  have mm3 := Kd.C_max m3
  have hb2 : Below (w.alloc (.cells #[.string nm, .slice A1 ps.length c1, .slice (some ad) ts.length c2] 25)).heap.size (w.alloc (.cells #[.string nm, .slice A1 ps.length c1, .slice (some ad) ts.length c2] 25)) W0 := by rw [← hW0]; exact below_alloc (Below.refl _ _) _
  replace m1 := Aside0.mk (Kd.C_below m1 hb2)
  replace m2 := Aside0.mk (Kd.C_below m2 hb2)
  replace m3 := Aside0.mk (Kd.C_below m3 hb2)
  replace hp := Aside0.mk (Kd.C_below hp H0.bel)
  replace hm := Aside0.mk (Kd.C_below hm H0.bel)
  replace H0 := Aside0.mk H0
  replace hW0 := Aside0.mk hW0
  replace hx := Aside0.mk hx
  clear hts hbN hb2
  go_enter Try.func45, Try.ntmps45
  go_wp2
  rw [hW0.out]
  clear q0 q1 q2 q3 q4 hW0
  go_loopw [8] (fun i wr => ∃ (p n : Nat), i = .int .i64 p ∧ p ≤ ps.length ∧ wr = W0.drewN n ∧ Aside0 (∀ t, t < p → rfBad ps x m t = false)) (fun i _ => ps.length - (intOf i).toNat)
  case atStart => exact ⟨0, 0, rfl, Nat.zero_le _, rfl, ⟨fun t ht => by omega⟩⟩
  case round =>
    obtain ⟨p, n, rfl, hj, rfl, hno⟩ := hrel
    by_cases hlt : p < ps.length
    · obtain ⟨ap, hAp, _, _, z2⟩ := at_T65 hp.out (p : Int) (by omega) (by omega)
      obtain ⟨am, hAm, hc⟩ := int_at hm.out p (by omega)
      subst hAp hAm
      simp only [Int.toNat_natCast] at z2
      rw [show m.getD p 0 = rd m (p : Int) by simp [rd]] at hc
      have hbad : rfBad ps x m p = (decide (rd m p < wt x.f1 p) || (decide (0 < wt x.f3 p) && decide (wt x.f3 p ≤ rd m p)) || (decide (0 < (rd_T65 ps p).f2) && decide ((rd_T65 ps p).f2 < wrap64 (wrap64 (rd m p - wt x.f1 p) + wt x.f2 p)))) := rfl
      have call : ∀ (n0 : Nat) (B : Option Addr) (e : Nat) (l : List S70) (y : Int) (n : Nat), Kd.C k70 W0 B l.length l → l.length ≤ e → wt l p = y → Calls Try.prog 47 #[.slice B l.length e, .int .i64 p] (W0.drewN (n0 + n)) fun e w' => e = .returned (.int .i64 y) ∧ ∃ m, w' = W0.drewN (n0 + m) := fun n0 B e l y n hC he hy => by
        obtain ⟨k, hk⟩ := (weight_ev l p (Kd.C_max hC)).ex
        rw [hy] at hk
        refine (petrinetref11_weight.calls k B e l p y (W0.drewN (n0 + n)) (Kd.C_drewN hC _) he hk).mono ?_
        rintro e w' ⟨rfl, ⟨q, rfl⟩⟩
        exact ⟨rfl, n + q, by rw [World.drewN_drewN, Nat.add_assoc]⟩
      obtain ⟨y, hy⟩ : ∃ y, rd m (p : Int) = y := ⟨_, rfl⟩
      obtain ⟨a, ha⟩ : ∃ a, wt x.f1 p = a := ⟨_, rfl⟩
      obtain ⟨b, hb⟩ : ∃ b, wt x.f2 p = b := ⟨_, rfl⟩
      obtain ⟨h, hh⟩ : ∃ h, wt x.f3 p = h := ⟨_, rfl⟩
      obtain ⟨lim, hlim⟩ : ∃ lim, (rd_T65 ps (p : Int)).f2 = lim := ⟨_, rfl⟩
      have k1 := Aside0.mk (fun n0 n => call n0 B1 e1 x.f1 a n m1.out n1' ha)
      have k2 := Aside0.mk (fun n0 n => call n0 B2 e2 x.f2 b n m2.out n2' hb)
      have k3 := Aside0.mk (fun n => by have := call n B3 e3 x.f3 h 0 m3.out n3' hh; simpa only [Nat.add_zero] using this)
      rw [hy, ha, hb, hh, hlim] at hbad
      rw [hy] at hc
      rw [hlim] at z2
      have hlm : p < m.length := by omega
      clear call hy ha hb hh hlim
      have step : Aside0 (rfBad ps x m p = false → ∀ t, t < p + 1 → rfBad ps x m t = false) := ⟨fun h t ht => by
        rcases Nat.lt_or_ge t p with h2 | h2
        · exact hno.out t h2
        · have : t = p := by omega
          rw [this]; exact h⟩
      have stop : Aside0 (rfBad ps x m p = true → rfReady ps x m = false) := ⟨fun h => rfReady_no hlt h⟩
      have fin : Aside0 (∀ n, Below w.heap.size w (W0.drewN n)) := ⟨fun n => H0.out.bel.trans ((pw_below_drewN (Below.refl _ _) n).mono H0.out.size)⟩
      have fin : Aside0 (∀ n, Below w.heap.size w (W0.drewN n)) := ⟨fun n => H0.out.bel.trans ((pw_below_drewN (Below.refl _ _) n).mono H0.out.size)⟩
      go_wp2_with (go_at_call 47; (with_reducible refine (k3.out n).mono ?_); rintro e w' ⟨rfl, ⟨n3, rfl⟩⟩)
      go_quiet ((first | (go_at_call 47; (with_reducible exact k1.out _ _)) | (go_at_call 47; (with_reducible exact k2.out _ _))))
      rw [World.drewN_drewN]
      obtain ⟨n4, hn4⟩ : ∃ n4, n + n3 + nq = n4 := ⟨_, rfl⟩
      rw [hn4]
      clear hn4
      obtain ⟨f, hf⟩ : ∃ f, wrap64 (wrap64 (y - a) + b) = f := ⟨_, rfl⟩
      rw [hf] at hbad ⊢
      obtain ⟨v35, hv35⟩ : ∃ v, wrap64 (y - a) = v := ⟨_, rfl⟩
      rw [hv35]
      clear hf hv35
      replace hbad := Aside0.mk hbad
      by_cases c1 : y < a
      · have d1 : decide (y < a) = true := decide_eq_true c1
        have hb := Aside0.mk (hbad.out.trans (show _ = true by simp [c1]))
        clear c1
        go_wp2
        go_quiet ((first | (go_at_call 47; (with_reducible exact k1.out _ _)) | (go_at_call 47; (with_reducible exact k2.out _ _))))
        go_wp2
        go_ret
        exact ⟨by rw [stop.out hb.out]; rfl, by rw [World.drewN_drewN]; exact fin.out _⟩
      · have d1 : decide (y < a) = false := decide_eq_false c1
        by_cases c2 : 0 < h
        · have d2 : decide (0 < h) = true := decide_eq_true c2
          by_cases c3 : h ≤ y
          · have d3 : decide (h ≤ y) = true := decide_eq_true c3
            have hb := Aside0.mk (hbad.out.trans (show _ = true by simp [c2, c3]))
            clear c1 c2 c3
            go_wp2
            go_quiet ((first | (go_at_call 47; (with_reducible exact k1.out _ _)) | (go_at_call 47; (with_reducible exact k2.out _ _))))
            go_wp2
            go_ret
            exact ⟨by rw [stop.out hb.out]; rfl, by rw [World.drewN_drewN]; exact fin.out _⟩
          · have d3 : decide (h ≤ y) = false := decide_eq_false c3
            have CC : (decide (0 < h) && decide (h ≤ y)) = false := by rw [d3, Bool.and_false]
            clear c2 c3
            by_cases c4 : 0 < lim
            · have d4 : decide (0 < lim) = true := decide_eq_true c4
              by_cases c5 : lim < f
              · have d5 : decide (lim < f) = true := decide_eq_true c5
                have hb := Aside0.mk (hbad.out.trans (show _ = true by simp [c1, c4, c5, CC]))
                clear c1 c4 c5 CC
                go_wp2
                go_quiet ((first | (go_at_call 47; (with_reducible exact k1.out _ _)) | (go_at_call 47; (with_reducible exact k2.out _ _))))
                go_wp2
                go_ret
                exact ⟨by rw [stop.out hb.out]; rfl, by rw [World.drewN_drewN]; exact fin.out _⟩
              · have d5 : decide (lim < f) = false := decide_eq_false c5
                have hb := Aside0.mk (hbad.out.trans (show _ = false by simp [c1, c5, CC]))
                clear c1 c4 c5 CC
                go_wp2
                go_quiet ((first | (go_at_call 47; (with_reducible exact k1.out _ _)) | (go_at_call 47; (with_reducible exact k2.out _ _))))
                go_wp2
                go_roundw
                case rel => exact ⟨p + 1, _, by go_num, by omega, rfl, ⟨step.out hb.out⟩⟩
                case measure => simp [intOf]; omega
            · have d4 : decide (0 < lim) = false := decide_eq_false c4
              have hb := Aside0.mk (hbad.out.trans (show _ = false by simp [c1, c4, CC]))
              clear c1 c4 CC
              go_wp2
              go_quiet ((first | (go_at_call 47; (with_reducible exact k1.out _ _)) | (go_at_call 47; (with_reducible exact k2.out _ _))))
              go_wp2
              go_roundw
              case rel => exact ⟨p + 1, _, by go_num, by omega, rfl, ⟨step.out hb.out⟩⟩
              case measure => simp [intOf]; omega
        · have d2 : decide (0 < h) = false := decide_eq_false c2
          have CC : (decide (0 < h) && decide (h ≤ y)) = false := by rw [d2, Bool.false_and]
          clear c2
          by_cases c4 : 0 < lim
          · have d4 : decide (0 < lim) = true := decide_eq_true c4
            by_cases c5 : lim < f
            · have d5 : decide (lim < f) = true := decide_eq_true c5
              have hb := Aside0.mk (hbad.out.trans (show _ = true by simp [c1, c4, c5, CC]))
              clear c1 c4 c5 CC
              go_wp2
              go_quiet ((first | (go_at_call 47; (with_reducible exact k1.out _ _)) | (go_at_call 47; (with_reducible exact k2.out _ _))))
              go_wp2
              go_ret
              exact ⟨by rw [stop.out hb.out]; rfl, by rw [World.drewN_drewN]; exact fin.out _⟩
            · have d5 : decide (lim < f) = false := decide_eq_false c5
              have hb := Aside0.mk (hbad.out.trans (show _ = false by simp [c1, c5, CC]))
              clear c1 c4 c5 CC
              go_wp2
              go_quiet ((first | (go_at_call 47; (with_reducible exact k1.out _ _)) | (go_at_call 47; (with_reducible exact k2.out _ _))))
              go_wp2
              go_roundw
              case rel => exact ⟨p + 1, _, by go_num, by omega, rfl, ⟨step.out hb.out⟩⟩
              case measure => simp [intOf]; omega
          · have d4 : decide (0 < lim) = false := decide_eq_false c4
            have hb := Aside0.mk (hbad.out.trans (show _ = false by simp [c1, c4, CC]))
            clear c1 c4 CC
            go_wp2
            go_quiet ((first | (go_at_call 47; (with_reducible exact k1.out _ _)) | (go_at_call 47; (with_reducible exact k2.out _ _))))
            go_wp2
            go_roundw
            case rel => exact ⟨p + 1, _, by go_num, by omega, rfl, ⟨step.out hb.out⟩⟩
            case measure => simp [intOf]; omega
    · obtain rfl : p = ps.length := by omega
      have hr : rfReady ps x m = true := by
        rw [rfReady, List.all_eq_true]; intro t ht; rw [hno.out t (List.mem_range.1 ht)]; rfl
      go_wp2
      go_ret
      exact ⟨by rw [hr]; rfl, H0.out.bel.trans (pw_below_drewN (Below.refl _ _) n |>.mono H0.out.size)⟩
def petrinetref11_Ready.f (a0_0 : ByteArray) (l0_1 : List (S65)) (l0_2 : List (S68)) (l1 : List Int) (a2 : Int) : Option (Bool) :=
  if 0 ≤ a2 ∧ a2 < l0_2.length ∧ l0_1.length ≤ l1.length then some (rfReady l0_1 (rd_T68 l0_2 a2) l1) else none
theorem petrinetref11_Ready.calls (a0_0 : ByteArray) (A0_1 : Option Addr) (c0_1 : Nat) (l0_1 : List (S65)) (A0_2 : Option Addr) (c0_2 : Nat) (l0_2 : List (S68)) (A1 : Option Addr) (c1 : Nat) (l1 : List Int) (a2 : Int) (r : Bool) (w : World) (hr0_1 : Kd.C k65 w A0_1 l0_1.length l0_1) (hc0_1 : l0_1.length ≤ c0_1) (hr0_2 : Kd.C k68 w A0_2 l0_2.length l0_2) (hc0_2 : l0_2.length ≤ c0_2) (hr1 : Kd.C (Kd.int .i64) w A1 l1.length l1) (hc1 : l1.length ≤ c1) (h : petrinetref11_Ready.f a0_0 l0_1 l0_2 l1 a2 = some r) :
    Calls Try.prog 45 #[.agg #[.string a0_0, .slice A0_1 l0_1.length c0_1, .slice A0_2 l0_2.length c0_2], .slice A1 l1.length c1, .int .i64 a2] w fun e w' => e = .returned (.bool r) ∧ Below w.heap.size w w' := by
  rw [petrinetref11_Ready.f] at h
  by_cases hc : 0 ≤ a2 ∧ a2 < l0_2.length ∧ l0_1.length ≤ l1.length
  · rw [if_pos hc] at h
    injection h with h
    subst h
    obtain ⟨n, rfl⟩ := Int.eq_ofNat_of_zero_le hc.1
    exact refReady_calls a0_0 A0_1 c0_1 l0_1 A0_2 c0_2 l0_2 A1 c1 l1 n w hr0_1 hr0_2 hr1 (by omega) hc.2.2
  · rw [if_neg hc] at h; simp at h

/-! ### petrinetref11.After -/
def refAfter (t : S68) (m : List Int) (n : Nat) : Option (List Int) := if (List.range n).all (fun p : Nat => decide (rfAfter t m p ≤ 1048576)) = true then some ((List.range n).map fun p : Nat => rfAfter t m p) else none
def aftL (t : S68) (m : List Int) (n : Nat) : List Int := (List.range n).map fun p : Nat => rfAfter t m p
theorem aftL_succ (t : S68) (m : List Int) (n : Nat) : aftL t m (n + 1) = aftL t m n ++ [rfAfter t m n] := by simp [aftL, List.range_succ]
theorem aftL_len (t : S68) (m : List Int) (n : Nat) : (aftL t m n).length = n := by simp [aftL]
theorem refAfter_no {t : S68} {m : List Int} {n p : Nat} (hp : p < n) (h : 1048576 < rfAfter t m p) : refAfter t m n = none := by
  rw [refAfter, if_neg]
  rw [List.all_eq_true]
  intro h2
  have := h2 p (List.mem_range.2 hp)
  simp at this
  omega
set_option maxRecDepth 100000 in
set_option maxHeartbeats 8000000 in
theorem refAfter_calls (nm : ByteArray) (A1 : Option Addr) (c1 : Nat) (ps : List S65) (A2 : Option Addr) (c2 : Nat) (ts : List S68) (Am : Option Addr) (cm : Nat) (m : List Int) (ti : Nat) (w : World)
    (hts : Kd.C k68 w A2 ts.length ts) (hm : Kd.C (Kd.int .i64) w Am m.length m) (hti : ti < ts.length) (hl : ps.length ≤ m.length) (hl2 : ps.length ≤ 1000) :
    Calls Try.prog 35 #[.agg #[.string nm, .slice A1 ps.length c1, .slice A2 ts.length c2], .slice Am m.length cm, .int .i64 ti] w fun e w' =>
      ∃ v, e = .returned (.tuple #[v, .bool (refAfter (rd_T68 ts (ti : Int)) m ps.length).isSome]) ∧ Kd.R (Kd.int .i64) 3 w' w.heap.size (fun _ => True) v ((refAfter (rd_T68 ts (ti : Int)) m ps.length).getD []) ∧ Below w.heap.size w w' := by
  have H0 := (Held.refl w).push (.cells #[.string nm, .slice A1 ps.length c1, .slice A2 ts.length c2] 25)
  have hmxt := Kd.C_max hts
  replace H0 := Aside0.mk H0
  go_enter Try.func35, Try.ntmps35
  go_wp2
  go_loopw [8, 9] (fun v i wr => ∃ p : Nat, i = .int .i64 p ∧ p ≤ ps.length ∧ Aside0 (Held w [(w.heap.size, .cells #[.string nm, .slice A1 ps.length c1, .slice A2 ts.length c2] 25 (0, 0))] wr) ∧ Aside0 (wr.ownsRow (w.heap.size + 1) 3 1 v (aftL (rd_T68 ts (ti : Int)) m p).length (nums .i64 (aftL (rd_T68 ts (ti : Int)) m p))) ∧ Aside0 (w.heap.size + 1 ≤ wr.heap.size) ∧ Aside0 (∀ q, q < p → rfAfter (rd_T68 ts (ti : Int)) m q ≤ 1048576)) (fun _ i _ => ps.length - (intOf i).toNat)
  case atStart => exact ⟨0, rfl, Nat.zero_le _, H0, ⟨by simpa [aftL, nums] using own_nil _ _ _ _⟩, ⟨by simp⟩, ⟨fun q hq => by omega⟩⟩
  case round =>
    clear H0
    obtain ⟨p, rfl, hj, hH, hown, hsz, hno⟩ := hrel
    have g1 := hH.out.cell 0 1 rfl rfl
    have g2 := hH.out.cell 0 2 rfl rfl
    by_cases hlt : p < ps.length
    · obtain ⟨ad, B1, e1, B2, e2, B3, e3, hA, q0, q1, q2, q3, q4, n1', m1, n2', m2, n3', m3⟩ := at_T68 (Kd.C_below hts hH.out.bel) (ti : Int) (by omega) (by omega)
      subst hA
      simp only [Int.toNat_natCast] at q0 q1 q2 q3 q4
      obtain ⟨x, hx⟩ : ∃ x, rd_T68 ts (ti : Int) = x := ⟨_, rfl⟩
      rw [hx] at q0 q1 q2 q3 q4 n1' m1 n2' m2 n3' m3
      have hxA := Aside0.mk hx
      simp only [hx] at hown hno
      obtain ⟨am, hAm, hc⟩ := int_at (Kd.C_below hm hH.out.bel) p (by omega)
      subst hAm
      rw [show m.getD p 0 = rd m (p : Int) by simp [rd]] at hc
      have call : ∀ (B : Option Addr) (e : Nat) (l : List S70) (y : Int) (n : Nat), Kd.C k70 wr B l.length l → l.length ≤ e → wt l p = y → Calls Try.prog 47 #[.slice B l.length e, .int .i64 p] (wr.drewN n) fun e w' => e = .returned (.int .i64 y) ∧ ∃ m, w' = wr.drewN m := fun B e l y n hC he hy => by
        obtain ⟨k, hk⟩ := (weight_ev l p (Kd.C_max hC)).ex
        rw [hy] at hk
        refine (petrinetref11_weight.calls k B e l p y (wr.drewN n) (Kd.C_drewN hC _) he hk).mono ?_
        rintro e w' ⟨rfl, ⟨q, rfl⟩⟩
        exact ⟨rfl, n + q, by rw [World.drewN_drewN]⟩
      have hafe : rfAfter x m p = wrap64 (wrap64 (rd m (p : Int) - wt x.f1 p) + wt x.f2 p) := rfl
      obtain ⟨y, hy⟩ : ∃ y, rd m (p : Int) = y := ⟨_, rfl⟩
      obtain ⟨a, ha⟩ : ∃ a, wt x.f1 p = a := ⟨_, rfl⟩
      obtain ⟨b, hb⟩ : ∃ b, wt x.f2 p = b := ⟨_, rfl⟩
      have k1 := Aside0.mk (fun n => call B1 e1 x.f1 a n m1 n1' ha)
      have k2 := Aside0.mk (fun n => call B2 e2 x.f2 b n m2 n2' hb)
      rw [hy, ha, hb] at hafe
      rw [hy] at hc
      have hlm : p < m.length := by omega
      replace hafe := Aside0.mk hafe
      clear call hy ha hb m1 m2 m3 hx q0 q3 q4 n1' n2' n3'
      go_wp2
      go_quiet ((first | (go_at_call 47; (with_reducible exact k1.out _)) | (go_at_call 47; (with_reducible exact k2.out _))))
      obtain ⟨f, hf⟩ : ∃ f, wrap64 (wrap64 (y - a) + b) = f := ⟨_, rfl⟩
      rw [hf]
      have hfe := Aside0.mk (hafe.out.trans hf)
      obtain ⟨v35, hv35⟩ : ∃ v, wrap64 (y - a) = v := ⟨_, rfl⟩
      rw [hv35]
      have HH := Aside0.mk (hH.out.drewN nq)
      have HO := Aside0.mk (pw_own_below hown.out (pw_below_drewN (Below.refl _ _) nq))
      have hs2 := Aside0.mk (show w.heap.size + 1 ≤ (wr.drewN nq).heap.size from hsz.out)
      clear hf hv35 hH hown k1 k2 hafe hc q1 q2 g1 g2
      obtain ⟨W, hW⟩ : ∃ W, wr.drewN nq = W := ⟨_, rfl⟩
      rw [hW] at HH HO hs2 ⊢
      clear hW
      by_cases hbig : 1048576 < f
      · have d1 : decide (1048576 < f) = true := decide_eq_true hbig
        have hr := refAfter_no (t := x) (m := m) hlt (by rw [hfe.out]; exact hbig)
        go_wp2
        go_ret2
        rw [hxA.out, hr]
        exact ⟨_, rfl, Kd.R_nil _ _ _ _ _, HH.out.bel⟩
      · have d1 : decide (1048576 < f) = false := decide_eq_false hbig
        have hf2 := Aside0.mk (show f ≤ 1048576 by omega)
        clear hbig
        have hal := Aside0.mk (aftL_len x m p)
        have hlt2 := Aside0.mk (show p + 1 ≤ ps.length from hlt)
        go_wp2_with (at_builtin; refine append_num1c rfl _ _ rfl (w.heap.size + 1) _ _ f HO.out rfl rfl (by have := hal.out; omega) hs2.out ?_; intro v' w3 ho' hh' hs')
        go_roundw
        case rel => exact ⟨p + 1, by go_num, hlt2.out, ⟨hh'.out _ _ HH.out (by simp) (by omega)⟩, ⟨by rw [hxA.out, aftL_succ, hfe.out]; exact ho'.out⟩, ⟨Nat.le_trans hs2.out hs'.out⟩, ⟨fun q hq => by
          rcases Nat.lt_or_ge q p with h2 | h2
          · rw [hxA.out]; exact hno.out q h2
          · obtain rfl : q = p := by omega
            rw [hxA.out, hfe.out]; exact hf2.out⟩⟩
        case measure => have := hlt2.out; simp [intOf]; omega
    · obtain rfl : p = ps.length := by omega
      have hr : refAfter (rd_T68 ts (ti : Int)) m ps.length = some (aftL (rd_T68 ts (ti : Int)) m ps.length) := by
        rw [refAfter, if_pos]; rfl
        rw [List.all_eq_true]; intro q hq; simpa using hno.out q (List.mem_range.1 hq)
      go_wp2
      go_ret2
      rw [hr]
      exact ⟨_, rfl, Kd.R_of_own (own_down hown.out (by omega)) (fun _ _ => trivial), hH.out.bel⟩
def petrinetref11_After.f (a0_0 : ByteArray) (l0_1 : List (S65)) (l0_2 : List (S68)) (l1 : List Int) (a2 : Int) : Option (List Int × Bool) :=
  if 0 ≤ a2 ∧ a2 < l0_2.length ∧ l0_1.length ≤ l1.length ∧ l0_1.length ≤ 1000 then some ((refAfter (rd_T68 l0_2 a2) l1 l0_1.length).getD [], (refAfter (rd_T68 l0_2 a2) l1 l0_1.length).isSome) else none
theorem petrinetref11_After.calls (a0_0 : ByteArray) (A0_1 : Option Addr) (c0_1 : Nat) (l0_1 : List (S65)) (A0_2 : Option Addr) (c0_2 : Nat) (l0_2 : List (S68)) (A1 : Option Addr) (c1 : Nat) (l1 : List Int) (a2 : Int) (r1 : List Int) (r2 : Bool) (w : World) (hr0_1 : Kd.C k65 w A0_1 l0_1.length l0_1) (hc0_1 : l0_1.length ≤ c0_1) (hr0_2 : Kd.C k68 w A0_2 l0_2.length l0_2) (hc0_2 : l0_2.length ≤ c0_2) (hr1 : Kd.C (Kd.int .i64) w A1 l1.length l1) (hc1 : l1.length ≤ c1) (h : petrinetref11_After.f a0_0 l0_1 l0_2 l1 a2 = some (r1, r2)) :
    Calls Try.prog 35 #[.agg #[.string a0_0, .slice A0_1 l0_1.length c0_1, .slice A0_2 l0_2.length c0_2], .slice A1 l1.length c1, .int .i64 a2] w fun e w' => ∃ v0_ : Value, e = .returned (.tuple #[v0_, .bool r2]) ∧ Kd.R (Kd.int .i64) 3 w' w.heap.size (fun _ => True) v0_ r1 ∧ Below w.heap.size w w' := by
  rw [petrinetref11_After.f] at h
  by_cases hc : 0 ≤ a2 ∧ a2 < l0_2.length ∧ l0_1.length ≤ l1.length ∧ l0_1.length ≤ 1000
  · rw [if_pos hc] at h
    injection h with h
    injection h with h1 h2
    subst h1 h2
    obtain ⟨n, rfl⟩ := Int.eq_ofNat_of_zero_le hc.1
    exact refAfter_calls a0_0 A0_1 c0_1 l0_1 A0_2 c0_2 l0_2 A1 c1 l1 n w hr0_2 hr1 (by omega) hc.2.2.1 hc.2.2.2
  · rw [if_neg hc] at h; simp at h

/-! ### petrinetref09.Small -/
def smP (p : S65) : Prop := p.f0.size ≤ 20
def smT (t : S68) : Prop := t.f0.size ≤ 20 ∧ t.f1.length ≤ 26 ∧ t.f2.length ≤ 26 ∧ t.f3.length ≤ 26
instance (p : S65) : Decidable (smP p) := by unfold smP; infer_instance
instance (t : S68) : Decidable (smT t) := by unfold smT; infer_instance
def small (nm : ByteArray) (ps : List S65) (ts : List S68) : Prop := ps.length ≤ 26 ∧ ts.length ≤ 26 ∧ nm.size ≤ 20 ∧ (∀ p ∈ ps, smP p) ∧ (∀ t ∈ ts, smT t)
instance (nm : ByteArray) (ps : List S65) (ts : List S68) : Decidable (small nm ps ts) := by unfold small; infer_instance
def smH (b : Nat) (nm : ByteArray) (A1 : Option Addr) (n1 c1 : Nat) (A2 : Option Addr) (n2 c2 : Nat) : List (Nat × Obj) :=
  [(b + 1, .cells #[.string ⟨#[]⟩, .slice none 0 0, .slice none 0 0] 25 (0, 0)), (b, .cells #[.string nm, .slice A1 n1 c1, .slice A2 n2 c2] 25 (0, 0))]
def smV (nm : ByteArray) (ps : List S65) (ts : List S68) (A1 : Option Addr) (c1 : Nat) (A2 : Option Addr) (c2 : Nat) : Value :=
  if small nm ps ts then .tuple #[.agg #[.string nm, .slice A1 ps.length c1, .slice A2 ts.length c2], .bool true] else .tuple #[.agg #[.string ⟨#[]⟩, .slice none 0 0, .slice none 0 0], .bool false]
theorem smV_no {nm : ByteArray} {ps : List S65} {ts : List S68} {A1 : Option Addr} {c1 : Nat} {A2 : Option Addr} {c2 : Nat} (h : ¬ small nm ps ts) : smV nm ps ts A1 c1 A2 c2 = .tuple #[.agg #[.string ⟨#[]⟩, .slice none 0 0, .slice none 0 0], .bool false] := if_neg h
set_option maxRecDepth 100000 in
set_option maxHeartbeats 8000000 in
theorem small_in (nm : ByteArray) (A1 : Option Addr) (c1 : Nat) (ps : List S65) (A2 : Option Addr) (c2 : Nat) (ts : List S68) (w : World) (hp : Kd.C k65 w A1 ps.length ps) (hts : Kd.C k68 w A2 ts.length ts) :
    CallsIn Fence.wide 0 Try.prog 7 #[.agg #[.string nm, .slice A1 ps.length c1, .slice A2 ts.length c2]] w fun e w' => e = .returned (smV nm ps ts A1 c1 A2 c2) ∧ Below w.heap.size w w' := by
  have H0 := ((Held.refl w).push (.cells #[.string nm, .slice A1 ps.length c1, .slice A2 ts.length c2] 25)).push (.cells #[.string ⟨#[]⟩, .slice none 0 0, .slice none 0 0] 25)
  simp only [World.size_alloc] at H0
  replace H0 := Aside0.mk (show Held w (smH w.heap.size nm A1 ps.length c1 A2 ts.length c2) _ from H0)
  have hmp := Kd.C_max hp
  have hmt := Kd.C_max hts
  have fin : Aside0 (¬ small nm ps ts → ∀ (W : World) (t : Array Value), Held w (smH w.heap.size nm A1 ps.length c1 A2 ts.length c2) W → t[2]?.getD undef = .pointer (some ⟨w.heap.size + 1, 0, none⟩) → t[3]?.getD undef = .bool false →
      bodyPostM Fence.wide 0 Try.prog Try.f7 (fun e w' => e = .returned (smV nm ps ts A1 c1 A2 c2) ∧ Below w.heap.size w w') .ret { tmps := t, defers := [] } (((W.setCell ⟨w.heap.size + 1, 0, none⟩ (.string ⟨#[]⟩)).setCell ⟨w.heap.size + 1, 1, none⟩ (.slice none 0 0)).setCell ⟨w.heap.size + 1, 2, none⟩ (.slice none 0 0))) := ⟨by
    intro hn W t hW h2 h3
    have HE := ((hW.set 0 0 rfl (.string ⟨#[]⟩)).set 0 1 rfl (.slice none 0 0)).set 0 2 rfl (.slice none 0 0)
    have z0 := HE.cell 0 0 rfl rfl
    have z1 := HE.cell 0 1 rfl rfl
    have z2 := HE.cell 0 2 rfl rfl
    refine ⟨_, ?_, by rw [smV_no hn], HE.bel⟩
    simp [results, Try.f7, go_sem, h2, h3, z0, z1, z2]⟩
  refine callsIn_of_wp_marks Try.func7 rfl trivial ?_ rfl
  simp only [Try.ntmps7, List.size_toArray, List.length_cons, List.length_nil, Nat.reduceAdd, Nat.reduceSub, Array.replicate_succ, Array.replicate_zero, List.push_toArray, List.append_toArray, List.nil_append, List.cons_append]
  by_cases g1 : 26 < ps.length
  · have d1 : decide ((26 : Int) < (ps.length : Int)) = true := by simp; omega
    gi_wp2
    refine ⟨.tuple #[.agg #[.string ⟨#[]⟩, .slice none 0 0, .slice none 0 0], .bool false], ?_, by rw [smV_no (fun h => by have := h.1; omega)], ?_⟩
    · simp [results, Try.f7, go_sem]
    · exact H0.out.bel
  · have d1 : decide ((26 : Int) < (ps.length : Int)) = false := by simp; omega
    by_cases g2 : 26 < ts.length
    · have d2 : decide ((26 : Int) < (ts.length : Int)) = true := by simp; omega
      gi_wp2
      refine ⟨.tuple #[.agg #[.string ⟨#[]⟩, .slice none 0 0, .slice none 0 0], .bool false], ?_, by rw [smV_no (fun h => by have := h.2.1; omega)], ?_⟩
      · simp [results, Try.f7, go_sem]
      · exact H0.out.bel
    · have d2 : decide ((26 : Int) < (ts.length : Int)) = false := by simp; omega
      by_cases g3 : 20 < nm.size
      · have d3 : decide ((20 : Int) < (nm.size : Int)) = true := by simp; omega
        gi_wp2
        refine ⟨.tuple #[.agg #[.string ⟨#[]⟩, .slice none 0 0, .slice none 0 0], .bool false], ?_, by rw [smV_no (fun h => by have := h.2.2.1; omega)], ?_⟩
        · simp [results, Try.f7, go_sem]
        · exact H0.out.bel
      · have d3 : decide ((20 : Int) < (nm.size : Int)) = false := by simp; omega
        gi_wp2
        gi_loopw [4] (fun i wr => ∃ j : Nat, i = .int .i64 j ∧ j ≤ ps.length ∧ Aside0 (Held w (smH w.heap.size nm A1 ps.length c1 A2 ts.length c2) wr) ∧ Aside0 (∀ p ∈ ps.take j, smP p)) (fun i _ => ps.length - (intOf i).toNat)
        case atStart => exact ⟨0, rfl, Nat.zero_le _, H0, ⟨by simp⟩⟩
        case round =>
          clear H0
          obtain ⟨j, rfl, hj, hH, hno⟩ := hrel
          have n1 := hH.out.cell 1 1 rfl rfl
          have n2 := hH.out.cell 1 2 rfl rfl
          have r0 := hH.out.cell 0 0 rfl rfl
          have r1 := hH.out.cell 0 1 rfl rfl
          have r2 := hH.out.cell 0 2 rfl rfl
          have f0 := hH.out.free 0 0 rfl
          have f1 := hH.out.free 0 1 rfl
          have f2 := hH.out.free 0 2 rfl
          by_cases hlt : j < ps.length
          · obtain ⟨ap, hAp, z0, _, _⟩ := at_T65 (Kd.C_below hp hH.out.bel) (j : Int) (by omega) (by omega)
            subst hAp
            simp only [Int.toNat_natCast] at z0
            have hmem : rd_T65 ps (j : Int) ∈ ps := by
              rw [rd_T65, Int.toNat_natCast, List.getD_eq_getElem?_getD, List.getElem?_eq_getElem hlt]; exact List.getElem_mem hlt
            have htk : ps.take (j + 1) = ps.take j ++ [rd_T65 ps (j : Int)] := by
              rw [List.take_succ_eq_append_getElem hlt, rd_T65, Int.toNat_natCast, List.getD_eq_getElem?_getD, List.getElem?_eq_getElem hlt]; rfl
            obtain ⟨x, hx⟩ : ∃ x, rd_T65 ps (j : Int) = x := ⟨_, rfl⟩
            rw [hx] at z0 hmem htk
            replace hmem := Aside0.mk hmem
            replace htk := Aside0.mk htk
            clear hx
            by_cases hs : 20 < x.f0.size
            · have d4 : decide ((20 : Int) < (x.f0.size : Int)) = true := by simp; omega
              gi_wp2
              exact fin.out (fun h => by have h1 : x.f0.size ≤ 20 := h.2.2.2.1 x hmem.out; omega) _ _ hH.out rfl rfl
            · have d4 : decide ((20 : Int) < (x.f0.size : Int)) = false := by simp; omega
              have hsm : Aside0 (smP x) := ⟨by unfold smP; omega⟩
              gi_wp2
              go_roundw
              case rel => exact ⟨j + 1, by go_num, by omega, hH, ⟨fun p hp => by rw [htk.out] at hp; rcases List.mem_append.1 hp with h | h; exact hno.out p h; rw [List.mem_singleton.1 h]; exact hsm.out⟩⟩
              case measure => simp [intOf]; omega
          · obtain rfl : j = ps.length := by omega
            have hP := hno.out
            rw [List.take_length] at hP
            replace hP := Aside0.mk hP
            clear hno
            gi_wp2
            gi_loopw [5] (fun i wr => ∃ j : Nat, i = .int .i64 j ∧ j ≤ ts.length ∧ Aside0 (Held w (smH w.heap.size nm A1 ps.length c1 A2 ts.length c2) wr) ∧ Aside0 (∀ t ∈ ts.take j, smT t)) (fun i _ => ts.length - (intOf i).toNat)
            case atStart => exact ⟨0, rfl, Nat.zero_le _, hH, ⟨by simp⟩⟩
            case round =>
              clear hH n1 n2 r0 r1 r2 f0 f1 f2
              obtain ⟨j, rfl, hj, hH, hno⟩ := hrel
              have n1 := hH.out.cell 1 1 rfl rfl
              have n2 := hH.out.cell 1 2 rfl rfl
              have n0 := hH.out.cell 1 0 rfl rfl
              have r0 := hH.out.cell 0 0 rfl rfl
              have r1 := hH.out.cell 0 1 rfl rfl
              have r2 := hH.out.cell 0 2 rfl rfl
              have f0 := hH.out.free 0 0 rfl
              have f1 := hH.out.free 0 1 rfl
              have f2 := hH.out.free 0 2 rfl
              by_cases hlt : j < ts.length
              · obtain ⟨ad, B1, e1, B2, e2, B3, e3, hA, q0, q1, q2, q3, q4, n1', m1, n2', m2, n3', m3⟩ := at_T68 (Kd.C_below hts hH.out.bel) (j : Int) (by omega) (by omega)
                subst hA
                simp only [Int.toNat_natCast] at q0 q1 q2 q3 q4
                have htk : ts.take (j + 1) = ts.take j ++ [rd_T68 ts (j : Int)] := by
                  rw [List.take_succ_eq_append_getElem hlt, rd_T68, Int.toNat_natCast, List.getD_eq_getElem?_getD, List.getElem?_eq_getElem hlt]; rfl
                have hmem : rd_T68 ts (j : Int) ∈ ts := by
                  rw [rd_T68, Int.toNat_natCast, List.getD_eq_getElem?_getD, List.getElem?_eq_getElem hlt]; exact List.getElem_mem hlt
                obtain ⟨x, hx⟩ : ∃ x, rd_T68 ts (j : Int) = x := ⟨_, rfl⟩
                rw [hx] at q0 q1 q2 q3 q4 htk hmem
                replace htk := Aside0.mk htk
                replace hmem := Aside0.mk hmem
                have HA := hH.out.alloc (.cells #[.string x.f0, .slice B1 x.f1.length e1, .slice B2 x.f2.length e2, .slice B3 x.f3.length e3, .int .i64 x.f4] 68)
                clear hx m1 m2 m3 n1' n2' n3' r0 r1 r2 f0 f1 f2
                have r0 := HA.cell 0 0 rfl rfl
                have r1 := HA.cell 0 1 rfl rfl
                have r2 := HA.cell 0 2 rfl rfl
                have f0 := HA.free 0 0 rfl
                have f1 := HA.free 0 1 rfl
                have f2 := HA.free 0 2 rfl
                replace HA := Aside0.mk HA
                have bad : Aside0 (¬ smT x → ¬ small nm ps ts) := ⟨fun h h2 => h (h2.2.2.2.2 x hmem.out)⟩
                by_cases s0 : 20 < x.f0.size
                · have d4 : decide ((20 : Int) < (x.f0.size : Int)) = true := by simp; omega
                  gi_wp2
                  exact fin.out (bad.out (fun h => by have := h.1; omega)) _ _ HA.out rfl rfl
                · have d4 : decide ((20 : Int) < (x.f0.size : Int)) = false := by simp; omega
                  by_cases s1 : 26 < x.f1.length
                  · have d5 : decide ((26 : Int) < (x.f1.length : Int)) = true := by simp; omega
                    gi_wp2
                    exact fin.out (bad.out (fun h => by have := h.2.1; omega)) _ _ HA.out rfl rfl
                  · have d5 : decide ((26 : Int) < (x.f1.length : Int)) = false := by simp; omega
                    by_cases s2 : 26 < x.f2.length
                    · have d6 : decide ((26 : Int) < (x.f2.length : Int)) = true := by simp; omega
                      gi_wp2
                      exact fin.out (bad.out (fun h => by have := h.2.2.1; omega)) _ _ HA.out rfl rfl
                    · have d6 : decide ((26 : Int) < (x.f2.length : Int)) = false := by simp; omega
                      by_cases s3 : 26 < x.f3.length
                      · have d7 : decide ((26 : Int) < (x.f3.length : Int)) = true := by simp; omega
                        gi_wp2
                        exact fin.out (bad.out (fun h => by have := h.2.2.2; omega)) _ _ HA.out rfl rfl
                      · have d7 : decide ((26 : Int) < (x.f3.length : Int)) = false := by simp; omega
                        have hsm : Aside0 (smT x) := ⟨⟨by omega, by omega, by omega, by omega⟩⟩
                        gi_wp2
                        go_roundw
                        case rel => exact ⟨j + 1, by go_num, by omega, HA, ⟨fun p hp => by rw [htk.out] at hp; rcases List.mem_append.1 hp with h | h; exact hno.out p h; rw [List.mem_singleton.1 h]; exact hsm.out⟩⟩
                        case measure => simp [intOf]; omega
              · obtain rfl : j = ts.length := by omega
                have hT := hno.out
                rw [List.take_length] at hT
                have hsm : small nm ps ts := ⟨by omega, by omega, by omega, hP.out, hT⟩
                have hv : smV nm ps ts A1 c1 A2 c2 = .tuple #[.agg #[.string nm, .slice A1 ps.length c1, .slice A2 ts.length c2], .bool true] := if_pos hsm
                have HE := ((hH.out.set 0 0 rfl (.string nm)).set 0 1 rfl (.slice A1 ps.length c1)).set 0 2 rfl (.slice A2 ts.length c2)
                have z0 := HE.cell 0 0 rfl rfl
                have z1 := HE.cell 0 1 rfl rfl
                have z2 := HE.cell 0 2 rfl rfl
                replace HE := Aside0.mk HE
                replace hv := Aside0.mk hv
                clear hT hno hsm
                gi_wp2
                refine ⟨_, ?_, by rw [hv.out], HE.out.bel⟩
                simp [results, Try.f7, go_sem, z0, z1, z2]
def petrinetref09_Small.f (a0_0 : ByteArray) (l0_1 : List (S65)) (l0_2 : List (S68)) : Option (ByteArray × (List (S65)) × (List (S68)) × Bool) :=
  if small a0_0 l0_1 l0_2 then some (a0_0, l0_1, l0_2, true) else some (⟨#[]⟩, [], [], false)
theorem petrinetref09_Small.calls (a0_0 : ByteArray) (P0_1_ : Nat → Prop) (A0_1 : Option Addr) (c0_1 : Nat) (l0_1 : List (S65)) (P0_2_ : Nat → Prop) (A0_2 : Option Addr) (c0_2 : Nat) (l0_2 : List (S68)) (r1 : ByteArray) (r2 : List (S65)) (r3 : List (S68)) (r4 : Bool) (w : World) (hs0_1 : Kd.V k65 65 w w.heap.size (fun k_ => P0_1_ k_) (.slice A0_1 l0_1.length c0_1) l0_1) (hs0_2 : Kd.V k68 68 w w.heap.size (fun k_ => P0_2_ k_) (.slice A0_2 l0_2.length c0_2) l0_2) (h : petrinetref09_Small.f a0_0 l0_1 l0_2 = some (r1, r2, r3, r4)) :
    Calls Try.prog 7 #[.agg #[.string a0_0, .slice A0_1 l0_1.length c0_1, .slice A0_2 l0_2.length c0_2]] w fun e w' => ∃ v1_ v2_ : Value, e = .returned (.tuple #[.agg #[.string r1, v1_, v2_], .bool r4]) ∧ Kd.V k65 65 w' w.heap.size (fun k_ => ((P0_1_ k_ ∨ P0_2_ k_) ∨ w.heap.size ≤ k_)) v1_ r2 ∧ Kd.V k68 68 w' w.heap.size (fun k_ => ((P0_1_ k_ ∨ P0_2_ k_) ∨ w.heap.size ≤ k_)) v2_ r3 ∧ Below w.heap.size w w' := by
  refine ((callsIn_wide (n := 0)).1 (small_in a0_0 A0_1 c0_1 l0_1 A0_2 c0_2 l0_2 w (Kd.V_reads' hs0_1).2.2 (Kd.V_reads' hs0_2).2.2)).mono ?_
  rintro e w' ⟨rfl, hb⟩
  rw [petrinetref09_Small.f] at h
  rw [smV]
  by_cases hs : small a0_0 l0_1 l0_2
  · rw [if_pos hs] at h ⊢
    injection h with h
    injection h with h1 h
    injection h with h2 h
    injection h with h3 h4
    subst h1 h2 h3 h4
    exact ⟨_, _, rfl, Kd.V_mono (Kd.V_step hs0_1 (fun k _ hk => hb.block k hk)) (fun k hk => .inl (.inl hk)), Kd.V_mono (Kd.V_step hs0_2 (fun k _ hk => hb.block k hk)) (fun k hk => .inl (.inr hk)), hb⟩
  · rw [if_neg hs] at h ⊢
    injection h with h
    injection h with h1 h
    injection h with h2 h
    injection h with h3 h4
    subst h1 h2 h3 h4
    exact ⟨_, _, rfl, Kd.V_nil _ _ _ _ _, Kd.V_nil _ _ _ _ _, hb⟩

end Go.Proofs.Yteaimaafahpamaa.Hy
