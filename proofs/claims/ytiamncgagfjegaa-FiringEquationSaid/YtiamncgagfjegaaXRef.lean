/- By hand (ref_ready, ref_after, ref_small): a part of this seat's proofs. -/
import Derived.Test.YtiamncgagfjegaaXBase
import Derived.Test.YtiamncgagfjegaaXCheck
import Derived.Test.YtiamncgagfjegaaH0
import Derived.Test.YtiamncgagfjegaaH12
namespace Go.Proofs.Ytiamncgagfjegaa.Hy
open Go.RowKit Go.Shelf Go.Proofs.YtiamncgagfjegaaW.PrintWords Go.Proofs.YtiamncgagfjegaaW.PrintLast Go.Proofs.YtiamncgagfjegaaW.PrintMore
set_option linter.unusedVariables false
set_option linter.unusedSimpArgs false
attribute [local go_sem] Oper.semAt_some
/-! ### petrinetref11.weight, Ready -/
def wt : List S60 → Int → Int
  | [], _ => 0
  | a :: l, p => if a.f0 = p then a.f1 else wt l p
def rfAfter (t : S58) (m : List Int) (p : Int) : Int := wrap64 (wrap64 (rd m p - wt t.f1 p) + wt t.f2 p)
def rfBad (ps : List S55) (t : S58) (m : List Int) (p : Nat) : Bool :=
  decide (rd m p < wt t.f1 p) || (decide (0 < wt t.f3 p) && decide (wt t.f3 p ≤ rd m p)) || (decide (0 < (rd_T55 ps p).f2) && decide ((rd_T55 ps p).f2 < rfAfter t m p))
def rfReady (ps : List S55) (t : S58) (m : List Int) : Bool := (List.range ps.length).all fun p => !rfBad ps t m p
def petrinetref11_Ready.f (a0_0 : ByteArray) (l0_1 : List (S55)) (l0_2 : List (S58)) (l1 : List Int) (a2 : Int) : Option (Bool) :=
  if 0 ≤ a2 ∧ a2 < l0_2.length ∧ l0_1.length ≤ l1.length then some (rfReady l0_1 (rd_T58 l0_2 a2) l1) else none
/-! ### petrinetref11.After -/
def refAfter (t : S58) (m : List Int) (n : Nat) : Option (List Int) := if (List.range n).all (fun p : Nat => decide (rfAfter t m p ≤ 1048576)) = true then some ((List.range n).map fun p : Nat => rfAfter t m p) else none
def aftL (t : S58) (m : List Int) (n : Nat) : List Int := (List.range n).map fun p : Nat => rfAfter t m p
theorem aftL_len (t : S58) (m : List Int) (n : Nat) : (aftL t m n).length = n := by simp [aftL]
def petrinetref11_After.f (a0_0 : ByteArray) (l0_1 : List (S55)) (l0_2 : List (S58)) (l1 : List Int) (a2 : Int) : Option (List Int × Bool) :=
  if 0 ≤ a2 ∧ a2 < l0_2.length ∧ l0_1.length ≤ l1.length ∧ l0_1.length ≤ 1000 then some ((refAfter (rd_T58 l0_2 a2) l1 l0_1.length).getD [], (refAfter (rd_T58 l0_2 a2) l1 l0_1.length).isSome) else none
/-! ### petrinetref09.Small -/
def smP (p : S55) : Prop := p.f0.size ≤ 20
def smT (t : S58) : Prop := t.f0.size ≤ 20 ∧ t.f1.length ≤ 26 ∧ t.f2.length ≤ 26 ∧ t.f3.length ≤ 26
instance (p : S55) : Decidable (smP p) := by unfold smP; infer_instance
instance (t : S58) : Decidable (smT t) := by unfold smT; infer_instance
def small (nm : ByteArray) (ps : List S55) (ts : List S58) : Prop := ps.length ≤ 26 ∧ ts.length ≤ 26 ∧ nm.size ≤ 20 ∧ (∀ p ∈ ps, smP p) ∧ (∀ t ∈ ts, smT t)
instance (nm : ByteArray) (ps : List S55) (ts : List S58) : Decidable (small nm ps ts) := by unfold small; infer_instance
def smH (b : Nat) (nm : ByteArray) (A1 : Option Addr) (n1 c1 : Nat) (A2 : Option Addr) (n2 c2 : Nat) : List (Nat × Obj) :=
  [(b + 1, .cells #[.string ⟨#[]⟩, .slice none 0 0, .slice none 0 0] 25 (0, 0)), (b, .cells #[.string nm, .slice A1 n1 c1, .slice A2 n2 c2] 25 (0, 0))]
def smV (nm : ByteArray) (ps : List S55) (ts : List S58) (A1 : Option Addr) (c1 : Nat) (A2 : Option Addr) (c2 : Nat) : Value :=
  if small nm ps ts then .tuple #[.agg #[.string nm, .slice A1 ps.length c1, .slice A2 ts.length c2], .bool true] else .tuple #[.agg #[.string ⟨#[]⟩, .slice none 0 0, .slice none 0 0], .bool false]
theorem smV_no {nm : ByteArray} {ps : List S55} {ts : List S58} {A1 : Option Addr} {c1 : Nat} {A2 : Option Addr} {c2 : Nat} (h : ¬ small nm ps ts) : smV nm ps ts A1 c1 A2 c2 = .tuple #[.agg #[.string ⟨#[]⟩, .slice none 0 0, .slice none 0 0], .bool false] := if_neg h
set_option maxRecDepth 100000 in
set_option maxHeartbeats 8000000 in
theorem small_in (nm : ByteArray) (A1 : Option Addr) (c1 : Nat) (ps : List S55) (A2 : Option Addr) (c2 : Nat) (ts : List S58) (w : World) (hp : Kd.C k55 w A1 ps.length ps) (hts : Kd.C k58 w A2 ts.length ts) :
    CallsIn Fence.wide 0 Try.prog 9 #[.agg #[.string nm, .slice A1 ps.length c1, .slice A2 ts.length c2]] w fun e w' => e = .returned (smV nm ps ts A1 c1 A2 c2) ∧ Below w.heap.size w w' := by
  have H0 := ((Held.refl w).push (.cells #[.string nm, .slice A1 ps.length c1, .slice A2 ts.length c2] 25)).push (.cells #[.string ⟨#[]⟩, .slice none 0 0, .slice none 0 0] 25)
  simp only [World.size_alloc] at H0
  replace H0 := Aside0.mk (show Held w (smH w.heap.size nm A1 ps.length c1 A2 ts.length c2) _ from H0)
  have hmp := Kd.C_max hp
  have hmt := Kd.C_max hts
  have fin : Aside0 (¬ small nm ps ts → ∀ (W : World) (t : Array Value), Held w (smH w.heap.size nm A1 ps.length c1 A2 ts.length c2) W → t[2]?.getD undef = .pointer (some ⟨w.heap.size + 1, 0, none⟩) → t[3]?.getD undef = .bool false →
      bodyPostM Fence.wide 0 Try.prog Try.f9 (fun e w' => e = .returned (smV nm ps ts A1 c1 A2 c2) ∧ Below w.heap.size w w') .ret { tmps := t, defers := [] } (((W.setCell ⟨w.heap.size + 1, 0, none⟩ (.string ⟨#[]⟩)).setCell ⟨w.heap.size + 1, 1, none⟩ (.slice none 0 0)).setCell ⟨w.heap.size + 1, 2, none⟩ (.slice none 0 0))) := ⟨by
    intro hn W t hW h2 h3
    have HE := ((hW.set 0 0 rfl (.string ⟨#[]⟩)).set 0 1 rfl (.slice none 0 0)).set 0 2 rfl (.slice none 0 0)
    have z0 := HE.cell 0 0 rfl rfl
    have z1 := HE.cell 0 1 rfl rfl
    have z2 := HE.cell 0 2 rfl rfl
    refine ⟨_, ?_, by rw [smV_no hn], HE.bel⟩
    simp [results, Try.f9, go_sem, h2, h3, z0, z1, z2]⟩
  refine callsIn_of_wp_marks Try.func9 rfl trivial ?_ rfl
  simp only [Try.ntmps9, List.size_toArray, List.length_cons, List.length_nil, Nat.reduceAdd, Nat.reduceSub, Array.replicate_succ, Array.replicate_zero, List.push_toArray, List.append_toArray, List.nil_append, List.cons_append]
  by_cases g1 : 26 < ps.length
  · have d1 : decide ((26 : Int) < (ps.length : Int)) = true := by simp; omega
    gi_wp2
    refine ⟨.tuple #[.agg #[.string ⟨#[]⟩, .slice none 0 0, .slice none 0 0], .bool false], ?_, by rw [smV_no (fun h => by have := h.1; omega)], ?_⟩
    · simp [results, Try.f9, go_sem]
    · exact H0.out.bel
  · have d1 : decide ((26 : Int) < (ps.length : Int)) = false := by simp; omega
    by_cases g2 : 26 < ts.length
    · have d2 : decide ((26 : Int) < (ts.length : Int)) = true := by simp; omega
      gi_wp2
      refine ⟨.tuple #[.agg #[.string ⟨#[]⟩, .slice none 0 0, .slice none 0 0], .bool false], ?_, by rw [smV_no (fun h => by have := h.2.1; omega)], ?_⟩
      · simp [results, Try.f9, go_sem]
      · exact H0.out.bel
    · have d2 : decide ((26 : Int) < (ts.length : Int)) = false := by simp; omega
      by_cases g3 : 20 < nm.size
      · have d3 : decide ((20 : Int) < (nm.size : Int)) = true := by simp; omega
        gi_wp2
        refine ⟨.tuple #[.agg #[.string ⟨#[]⟩, .slice none 0 0, .slice none 0 0], .bool false], ?_, by rw [smV_no (fun h => by have := h.2.2.1; omega)], ?_⟩
        · simp [results, Try.f9, go_sem]
        · exact H0.out.bel
      · have d3 : decide ((20 : Int) < (nm.size : Int)) = false := by simp; omega
        gi_wp2
        gi_loopw [4] (fun i wr => ∃ j : Nat, i = .int .i64 j ∧ j ≤ ps.length ∧ Aside0 (Held w (smH w.heap.size nm A1 ps.length c1 A2 ts.length c2) wr) ∧ Aside0 (∀ p ∈ ps.take j, smP p)) (fun i _ => ps.length - (intOf i).toNat)
        case atStart => exact ⟨0, rfl, Nat.zero_le _, H0, ⟨by simp⟩⟩
        case round =>
          clear H0
          obtain ⟨j, rfl, hj, hH, hno⟩ := hrel
          have n1 := hH.out.cell 1 1 rfl rfl
          have n2 := hH.out.cell 1 2 rfl rfl
          have r0 := hH.out.cell 0 0 rfl rfl
          have r1 := hH.out.cell 0 1 rfl rfl
          have r2 := hH.out.cell 0 2 rfl rfl
          have f0 := hH.out.free 0 0 rfl
          have f1 := hH.out.free 0 1 rfl
          have f2 := hH.out.free 0 2 rfl
          by_cases hlt : j < ps.length
          · obtain ⟨ap, hAp, z0, _, _⟩ := at_T55 (Kd.C_below hp hH.out.bel) (j : Int) (by omega) (by omega)
            subst hAp
            simp only [Int.toNat_natCast] at z0
            have hmem : rd_T55 ps (j : Int) ∈ ps := by
              rw [rd_T55, Int.toNat_natCast, List.getD_eq_getElem?_getD, List.getElem?_eq_getElem hlt]; exact List.getElem_mem hlt
            have htk : ps.take (j + 1) = ps.take j ++ [rd_T55 ps (j : Int)] := by
              rw [List.take_succ_eq_append_getElem hlt, rd_T55, Int.toNat_natCast, List.getD_eq_getElem?_getD, List.getElem?_eq_getElem hlt]; rfl
            obtain ⟨x, hx⟩ : ∃ x, rd_T55 ps (j : Int) = x := ⟨_, rfl⟩
            rw [hx] at z0 hmem htk
            replace hmem := Aside0.mk hmem
            replace htk := Aside0.mk htk
            clear hx
            by_cases hs : 20 < x.f0.size
            · have d4 : decide ((20 : Int) < (x.f0.size : Int)) = true := by simp; omega
              gi_wp2
              exact fin.out (fun h => by have h1 : x.f0.size ≤ 20 := h.2.2.2.1 x hmem.out; omega) _ _ hH.out rfl rfl
            · have d4 : decide ((20 : Int) < (x.f0.size : Int)) = false := by simp; omega
              have hsm : Aside0 (smP x) := ⟨by unfold smP; omega⟩
              gi_wp2
              go_roundw
              case rel => exact ⟨j + 1, by go_num, by omega, hH, ⟨fun p hp => by rw [htk.out] at hp; rcases List.mem_append.1 hp with h | h; exact hno.out p h; rw [List.mem_singleton.1 h]; exact hsm.out⟩⟩
              case measure => simp [intOf]; omega
          · obtain rfl : j = ps.length := by omega
            have hP := hno.out
            rw [List.take_length] at hP
            replace hP := Aside0.mk hP
            clear hno
            gi_wp2
            gi_loopw [5] (fun i wr => ∃ j : Nat, i = .int .i64 j ∧ j ≤ ts.length ∧ Aside0 (Held w (smH w.heap.size nm A1 ps.length c1 A2 ts.length c2) wr) ∧ Aside0 (∀ t ∈ ts.take j, smT t)) (fun i _ => ts.length - (intOf i).toNat)
            case atStart => exact ⟨0, rfl, Nat.zero_le _, hH, ⟨by simp⟩⟩
            case round =>
              clear hH n1 n2 r0 r1 r2 f0 f1 f2
              obtain ⟨j, rfl, hj, hH, hno⟩ := hrel
              have n1 := hH.out.cell 1 1 rfl rfl
              have n2 := hH.out.cell 1 2 rfl rfl
              have n0 := hH.out.cell 1 0 rfl rfl
              have r0 := hH.out.cell 0 0 rfl rfl
              have r1 := hH.out.cell 0 1 rfl rfl
              have r2 := hH.out.cell 0 2 rfl rfl
              have f0 := hH.out.free 0 0 rfl
              have f1 := hH.out.free 0 1 rfl
              have f2 := hH.out.free 0 2 rfl
              by_cases hlt : j < ts.length
              · obtain ⟨ad, B1, e1, B2, e2, B3, e3, hA, q0, q1, q2, q3, q4, n1', m1, n2', m2, n3', m3⟩ := at_T58 (Kd.C_below hts hH.out.bel) (j : Int) (by omega) (by omega)
                subst hA
                simp only [Int.toNat_natCast] at q0 q1 q2 q3 q4
                have htk : ts.take (j + 1) = ts.take j ++ [rd_T58 ts (j : Int)] := by
                  rw [List.take_succ_eq_append_getElem hlt, rd_T58, Int.toNat_natCast, List.getD_eq_getElem?_getD, List.getElem?_eq_getElem hlt]; rfl
                have hmem : rd_T58 ts (j : Int) ∈ ts := by
                  rw [rd_T58, Int.toNat_natCast, List.getD_eq_getElem?_getD, List.getElem?_eq_getElem hlt]; exact List.getElem_mem hlt
                obtain ⟨x, hx⟩ : ∃ x, rd_T58 ts (j : Int) = x := ⟨_, rfl⟩
                rw [hx] at q0 q1 q2 q3 q4 htk hmem
                replace htk := Aside0.mk htk
                replace hmem := Aside0.mk hmem
                have HA := hH.out.alloc (.cells #[.string x.f0, .slice B1 x.f1.length e1, .slice B2 x.f2.length e2, .slice B3 x.f3.length e3, .int .i64 x.f4] 58)
                clear hx m1 m2 m3 n1' n2' n3' r0 r1 r2 f0 f1 f2
                have r0 := HA.cell 0 0 rfl rfl
                have r1 := HA.cell 0 1 rfl rfl
                have r2 := HA.cell 0 2 rfl rfl
                have f0 := HA.free 0 0 rfl
                have f1 := HA.free 0 1 rfl
                have f2 := HA.free 0 2 rfl
                replace HA := Aside0.mk HA
                have bad : Aside0 (¬ smT x → ¬ small nm ps ts) := ⟨fun h h2 => h (h2.2.2.2.2 x hmem.out)⟩
                by_cases s0 : 20 < x.f0.size
                · have d4 : decide ((20 : Int) < (x.f0.size : Int)) = true := by simp; omega
                  gi_wp2
                  exact fin.out (bad.out (fun h => by have := h.1; omega)) _ _ HA.out rfl rfl
                · have d4 : decide ((20 : Int) < (x.f0.size : Int)) = false := by simp; omega
                  by_cases s1 : 26 < x.f1.length
                  · have d5 : decide ((26 : Int) < (x.f1.length : Int)) = true := by simp; omega
                    gi_wp2
                    exact fin.out (bad.out (fun h => by have := h.2.1; omega)) _ _ HA.out rfl rfl
                  · have d5 : decide ((26 : Int) < (x.f1.length : Int)) = false := by simp; omega
                    by_cases s2 : 26 < x.f2.length
                    · have d6 : decide ((26 : Int) < (x.f2.length : Int)) = true := by simp; omega
                      gi_wp2
                      exact fin.out (bad.out (fun h => by have := h.2.2.1; omega)) _ _ HA.out rfl rfl
                    · have d6 : decide ((26 : Int) < (x.f2.length : Int)) = false := by simp; omega
                      by_cases s3 : 26 < x.f3.length
                      · have d7 : decide ((26 : Int) < (x.f3.length : Int)) = true := by simp; omega
                        gi_wp2
                        exact fin.out (bad.out (fun h => by have := h.2.2.2; omega)) _ _ HA.out rfl rfl
                      · have d7 : decide ((26 : Int) < (x.f3.length : Int)) = false := by simp; omega
                        have hsm : Aside0 (smT x) := ⟨⟨by omega, by omega, by omega, by omega⟩⟩
                        gi_wp2
                        go_roundw
                        case rel => exact ⟨j + 1, by go_num, by omega, HA, ⟨fun p hp => by rw [htk.out] at hp; rcases List.mem_append.1 hp with h | h; exact hno.out p h; rw [List.mem_singleton.1 h]; exact hsm.out⟩⟩
                        case measure => simp [intOf]; omega
              · obtain rfl : j = ts.length := by omega
                have hT := hno.out
                rw [List.take_length] at hT
                have hsm : small nm ps ts := ⟨by omega, by omega, by omega, hP.out, hT⟩
                have hv : smV nm ps ts A1 c1 A2 c2 = .tuple #[.agg #[.string nm, .slice A1 ps.length c1, .slice A2 ts.length c2], .bool true] := if_pos hsm
                have HE := ((hH.out.set 0 0 rfl (.string nm)).set 0 1 rfl (.slice A1 ps.length c1)).set 0 2 rfl (.slice A2 ts.length c2)
                have z0 := HE.cell 0 0 rfl rfl
                have z1 := HE.cell 0 1 rfl rfl
                have z2 := HE.cell 0 2 rfl rfl
                replace HE := Aside0.mk HE
                replace hv := Aside0.mk hv
                clear hT hno hsm
                gi_wp2
                refine ⟨_, ?_, by rw [hv.out], HE.out.bel⟩
                simp [results, Try.f9, go_sem, z0, z1, z2]
def petrinetref09_Small.f (a0_0 : ByteArray) (l0_1 : List (S55)) (l0_2 : List (S58)) : Option (ByteArray × (List (S55)) × (List (S58)) × Bool) :=
  if small a0_0 l0_1 l0_2 then some (a0_0, l0_1, l0_2, true) else some (⟨#[]⟩, [], [], false)
theorem petrinetref09_Small.calls (a0_0 : ByteArray) (P0_1_ : Nat → Prop) (A0_1 : Option Addr) (c0_1 : Nat) (l0_1 : List (S55)) (P0_2_ : Nat → Prop) (A0_2 : Option Addr) (c0_2 : Nat) (l0_2 : List (S58)) (r1 : ByteArray) (r2 : List (S55)) (r3 : List (S58)) (r4 : Bool) (w : World) (hs0_1 : Kd.V k55 55 w w.heap.size (fun k_ => P0_1_ k_) (.slice A0_1 l0_1.length c0_1) l0_1) (hs0_2 : Kd.V k58 58 w w.heap.size (fun k_ => P0_2_ k_) (.slice A0_2 l0_2.length c0_2) l0_2) (h : petrinetref09_Small.f a0_0 l0_1 l0_2 = some (r1, r2, r3, r4)) :
    Calls Try.prog 9 #[.agg #[.string a0_0, .slice A0_1 l0_1.length c0_1, .slice A0_2 l0_2.length c0_2]] w fun e w' => ∃ v1_ v2_ : Value, e = .returned (.tuple #[.agg #[.string r1, v1_, v2_], .bool r4]) ∧ Kd.V k55 55 w' w.heap.size (fun k_ => ((P0_1_ k_ ∨ P0_2_ k_) ∨ w.heap.size ≤ k_)) v1_ r2 ∧ Kd.V k58 58 w' w.heap.size (fun k_ => ((P0_1_ k_ ∨ P0_2_ k_) ∨ w.heap.size ≤ k_)) v2_ r3 ∧ Below w.heap.size w w' := by
  refine ((callsIn_wide (n := 0)).1 (small_in a0_0 A0_1 c0_1 l0_1 A0_2 c0_2 l0_2 w (Kd.V_reads' hs0_1).2.2 (Kd.V_reads' hs0_2).2.2)).mono ?_
  rintro e w' ⟨rfl, hb⟩
  rw [petrinetref09_Small.f] at h
  rw [smV]
  by_cases hs : small a0_0 l0_1 l0_2
  · rw [if_pos hs] at h ⊢
    injection h with h
    injection h with h1 h
    injection h with h2 h
    injection h with h3 h4
    subst h1 h2 h3 h4
    exact ⟨_, _, rfl, Kd.V_mono (Kd.V_step hs0_1 (fun k _ hk => hb.block k hk)) (fun k hk => .inl (.inl hk)), Kd.V_mono (Kd.V_step hs0_2 (fun k _ hk => hb.block k hk)) (fun k hk => .inl (.inr hk)), hb⟩
  · rw [if_neg hs] at h ⊢
    injection h with h
    injection h with h1 h
    injection h with h2 h
    injection h with h3 h4
    subst h1 h2 h3 h4
    exact ⟨_, _, rfl, Kd.V_nil _ _ _ _ _, Kd.V_nil _ _ _ _ _, hb⟩

end Go.Proofs.Ytiamncgagfjegaa.Hy
