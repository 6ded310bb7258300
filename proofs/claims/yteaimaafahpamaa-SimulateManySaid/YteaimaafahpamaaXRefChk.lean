/- By hand (ref_name, ref_chk1, ref_chk2, ref_chk3, ref_chk4): a part of this seat's proofs. -/
import Derived.RangeFuncNested
import Derived.RangeFuncBound
import Derived.RangeFuncCalls
import Derived.RangeFuncLeaves
import Derived.Shelf.Abstract
import Derived.Shelf.RegionOpen
import Derived.WalkKit
import Derived.OwnWalkIn
import Derived.TacticsInMore
import Derived.LoopNIn
import Derived.LoopIn
import Derived.LoopTactic
import Derived.RegionIn
import Derived.Laws.RangeString
import Derived.Laws.RangeAny
import Derived.RegionTactic
import Derived.BigRegion
import Derived.Outline
import Derived.Handy
import Derived.Laws.CopyOwn
import Derived.Sort.LoopGhostIn
import Derived.Stop.RegionWithIn
import Derived.Laws.EntriesVeiled
import Derived.Maps.AppendAt
import Derived.Test.YteaimaafahpamaaProg
import Derived.Test.YteaimaafahpamaaM0
import Derived.Test.YteaimaafahpamaaXBase
import Derived.Test.YteaimaafahpamaaXCheck
import Derived.Test.YteaimaafahpamaaH0
import Derived.IntWalk
namespace Go.Proofs.Yteaimaafahpamaa.Hy
open Go.RowKit Go.Shelf Go.Proofs.YteaimaafahpamaaW.PrintWords Go.Proofs.YteaimaafahpamaaW.PrintLast Go.Proofs.YteaimaafahpamaaW.PrintMore
set_option linter.unusedVariables false
set_option linter.unusedSimpArgs false
attribute [local go_sem] Oper.semAt_some
/-! ### petrinetref09.Name -/
set_option maxRecDepth 100000 in
set_option maxHeartbeats 4000000 in
theorem refName_in (s : ByteArray) (w : World) : Calls Try.prog 41 #[.string s] w fun e w' => e = .returned (.bool (nameB s)) ∧ w = w' := by
  go_enter Try.func41, Try.ntmps41
  by_cases h1 : s.size < 1
  · have hd : decide ((s.size : Int) < 1) = true := by simp; omega
    have hr : nameB s = false := by simp [nameB]; omega
    clear h1
    go_wp2
    go_ret
    exact ⟨by rw [hr]; rfl, rfl⟩
  · have hd : decide ((s.size : Int) < 1) = false := by simp; omega
    by_cases h2 : s.size > 16
    · have hd2 : decide ((16 : Int) < (s.size : Int)) = true := by simp; omega
      have hr : nameB s = false := by simp [nameB]; omega
      clear h1 h2
      go_wp2
      go_ret
      exact ⟨by rw [hr]; rfl, rfl⟩
    · have hd2 : decide ((16 : Int) < (s.size : Int)) = false := by simp; omega
      have hsz : s.size ≤ 16 := by omega
      go_wp2
      go_loop [3] (fun i => ∃ p : Nat, i = .int .i64 p ∧ p ≤ s.size ∧ Aside0 (∀ q, q < p → okChar s q = true)) (fun i => s.size - (intOf i).toNat)
      case atStart => exact ⟨0, rfl, Nat.zero_le _, ⟨fun q hq => by omega⟩⟩
      case round =>
        obtain ⟨p, rfl, hj, hno⟩ := hrel
        by_cases hlt : p < s.size
        · have hg : (s.data.toList.getD p 0) = s[p]'hlt := by
            rw [List.getD_eq_getElem?_getD, List.getElem?_eq_getElem (by simpa using hlt)]; rfl
          have hok : okChar s p = ((decide (97 ≤ (s[p]'hlt).toNat) && decide ((s[p]'hlt).toNat ≤ 122)) || decide ((s[p]'hlt).toNat = 95) || (decide (0 < p) && ((decide (48 ≤ (s[p]'hlt).toNat) && decide ((s[p]'hlt).toNat ≤ 57)) || decide ((s[p]'hlt).toNat = 46)))) := by simp only [okChar, hg]
          have step : Aside0 (okChar s p = true → ∀ q, q < p + 1 → okChar s q = true) := ⟨fun h q hq => by
            rcases Nat.lt_or_ge q p with h2 | h2
            · exact hno.out q h2
            · obtain rfl : q = p := by omega
              exact h⟩
          have stop : Aside0 (okChar s p = false → nameB s = false) := ⟨fun h => nameB_no hlt h⟩
          obtain ⟨b, hb⟩ : ∃ b, (s[p]'hlt).toNat = b := ⟨_, rfl⟩
          rw [hb] at hok
          replace hok := Aside0.mk hok
          have hlt2 := Aside0.mk (show p + 1 ≤ s.size from hlt)
          clear hg hno
          by_cases g : b > 122
          · have e1 : decide ((97 : Int) ≤ ((s[p]'hlt).toNat : Int)) = true := by rw [hb]; simp; omega
            have e2 : decide (((s[p]'hlt).toNat : Int) ≤ (122 : Int)) = false := by rw [hb]; simp; omega
            have e3 : (((s[p]'hlt).toNat : Int) == (95 : Int)) = false := by rw [hb]; simp; omega
            have e4 : decide ((48 : Int) ≤ ((s[p]'hlt).toNat : Int)) = true := by rw [hb]; simp; omega
            have e5 : decide (((s[p]'hlt).toNat : Int) ≤ (57 : Int)) = false := by rw [hb]; simp; omega
            have e6 : (((s[p]'hlt).toNat : Int) == (46 : Int)) = false := by rw [hb]; simp; omega
            have ho := Aside0.mk (hok.out.trans (show _ = false by simp; omega))
            clear hb
            go_wp2
            go_ret
            exact ⟨by rw [stop.out ho.out]; rfl, rfl⟩
          · have g10 := g
            clear g
            by_cases g : 97 ≤ b
            · have e1 : decide ((97 : Int) ≤ ((s[p]'hlt).toNat : Int)) = true := by rw [hb]; simp; omega
              have e2 : decide (((s[p]'hlt).toNat : Int) ≤ (122 : Int)) = true := by rw [hb]; simp; omega
              have e4 : decide ((48 : Int) ≤ ((s[p]'hlt).toNat : Int)) = true := by rw [hb]; simp; omega
              have e5 : decide (((s[p]'hlt).toNat : Int) ≤ (57 : Int)) = false := by rw [hb]; simp; omega
              have e6 : (((s[p]'hlt).toNat : Int) == (46 : Int)) = false := by rw [hb]; simp; omega
              have ho := Aside0.mk (hok.out.trans (show _ = true by simp; omega))
              clear hb
              go_wp2
              go_round
              case rel => exact ⟨p + 1, by go_num, hlt2.out, ⟨step.out ho.out⟩⟩
              case measure => have := hlt2.out; simp [intOf]; omega
            · have g12 := g
              clear g
              by_cases g : b = 95
              · have e1 : decide ((97 : Int) ≤ ((s[p]'hlt).toNat : Int)) = false := by rw [hb]; simp; omega
                have e3 : (((s[p]'hlt).toNat : Int) == (95 : Int)) = true := by rw [hb]; simp; omega
                have e4 : decide ((48 : Int) ≤ ((s[p]'hlt).toNat : Int)) = true := by rw [hb]; simp; omega
                have e5 : decide (((s[p]'hlt).toNat : Int) ≤ (57 : Int)) = false := by rw [hb]; simp; omega
                have e6 : (((s[p]'hlt).toNat : Int) == (46 : Int)) = false := by rw [hb]; simp; omega
                have ho := Aside0.mk (hok.out.trans (show _ = true by simp; omega))
                clear hb
                go_wp2
                go_round
                case rel => exact ⟨p + 1, by go_num, hlt2.out, ⟨step.out ho.out⟩⟩
                case measure => have := hlt2.out; simp [intOf]; omega
              · have g14 := g
                clear g
                by_cases g : b > 57
                · have e1 : decide ((97 : Int) ≤ ((s[p]'hlt).toNat : Int)) = false := by rw [hb]; simp; omega
                  have e3 : (((s[p]'hlt).toNat : Int) == (95 : Int)) = false := by rw [hb]; simp; omega
                  have e4 : decide ((48 : Int) ≤ ((s[p]'hlt).toNat : Int)) = true := by rw [hb]; simp; omega
                  have e5 : decide (((s[p]'hlt).toNat : Int) ≤ (57 : Int)) = false := by rw [hb]; simp; omega
                  have e6 : (((s[p]'hlt).toNat : Int) == (46 : Int)) = false := by rw [hb]; simp; omega
                  have ho := Aside0.mk (hok.out.trans (show _ = false by simp; omega))
                  clear hb
                  go_wp2
                  go_ret
                  exact ⟨by rw [stop.out ho.out]; rfl, rfl⟩
                · have g16 := g
                  clear g
                  by_cases g : 48 ≤ b
                  · have e1 : decide ((97 : Int) ≤ ((s[p]'hlt).toNat : Int)) = false := by rw [hb]; simp; omega
                    have e3 : (((s[p]'hlt).toNat : Int) == (95 : Int)) = false := by rw [hb]; simp; omega
                    have e4 : decide ((48 : Int) ≤ ((s[p]'hlt).toNat : Int)) = true := by rw [hb]; simp; omega
                    have e5 : decide (((s[p]'hlt).toNat : Int) ≤ (57 : Int)) = true := by rw [hb]; simp; omega
                    by_cases hz : p = 0
                    · have e7 : ((p : Int) == 0) = true := by simp [hz]
                      have ho := Aside0.mk (hok.out.trans (show _ = false by simp [hz]; omega))
                      clear hb hz
                      go_wp2
                      go_ret
                      exact ⟨by rw [stop.out ho.out]; rfl, rfl⟩
                    · have e7 : ((p : Int) == 0) = false := by simp [hz]
                      have ho := Aside0.mk (hok.out.trans (show _ = true by simp; omega))
                      clear hb hz
                      go_wp2
                      go_round
                      case rel => exact ⟨p + 1, by go_num, hlt2.out, ⟨step.out ho.out⟩⟩
                      case measure => have := hlt2.out; simp [intOf]; omega
                  · have g18 := g
                    clear g
                    by_cases g : b = 46
                    · have e1 : decide ((97 : Int) ≤ ((s[p]'hlt).toNat : Int)) = false := by rw [hb]; simp; omega
                      have e3 : (((s[p]'hlt).toNat : Int) == (95 : Int)) = false := by rw [hb]; simp; omega
                      have e4 : decide ((48 : Int) ≤ ((s[p]'hlt).toNat : Int)) = false := by rw [hb]; simp; omega
                      have e6 : (((s[p]'hlt).toNat : Int) == (46 : Int)) = true := by rw [hb]; simp; omega
                      by_cases hz : p = 0
                      · have e7 : ((p : Int) == 0) = true := by simp [hz]
                        have ho := Aside0.mk (hok.out.trans (show _ = false by simp [hz]; omega))
                        clear hb hz
                        go_wp2
                        go_ret
                        exact ⟨by rw [stop.out ho.out]; rfl, rfl⟩
                      · have e7 : ((p : Int) == 0) = false := by simp [hz]
                        have ho := Aside0.mk (hok.out.trans (show _ = true by simp; omega))
                        clear hb hz
                        go_wp2
                        go_round
                        case rel => exact ⟨p + 1, by go_num, hlt2.out, ⟨step.out ho.out⟩⟩
                        case measure => have := hlt2.out; simp [intOf]; omega
                    · have g20 := g
                      clear g
                      have e1 : decide ((97 : Int) ≤ ((s[p]'hlt).toNat : Int)) = false := by rw [hb]; simp; omega
                      have e3 : (((s[p]'hlt).toNat : Int) == (95 : Int)) = false := by rw [hb]; simp; omega
                      have e4 : decide ((48 : Int) ≤ ((s[p]'hlt).toNat : Int)) = false := by rw [hb]; simp; omega
                      have e6 : (((s[p]'hlt).toNat : Int) == (46 : Int)) = false := by rw [hb]; simp; omega
                      have ho := Aside0.mk (hok.out.trans (show _ = false by simp; omega))
                      clear hb
                      go_wp2
                      go_ret
                      exact ⟨by rw [stop.out ho.out]; rfl, rfl⟩
        · obtain rfl : p = s.size := by omega
          have hr : nameB s = true := by
            simp only [nameB, Bool.and_eq_true, decide_eq_true_eq, List.all_eq_true, List.mem_range]
            exact ⟨⟨by omega, by omega⟩, fun i hi => hno.out i hi⟩
          go_wp2
          go_ret
          exact ⟨by first | (rw [hr]; rfl) | rfl, rfl⟩
def petrinetref09_Name.f (a0 : ByteArray) : Option (Bool) := some (nameB a0)
theorem petrinetref09_Name.calls (a0 : ByteArray) (r : Bool) (w : World) (h : petrinetref09_Name.f a0 = some r) : Calls Try.prog 41 #[.string a0] w fun e w' => e = .returned (.bool r) ∧ w = w' := by
  injection h with h
  subst h
  exact refName_in a0 w

/-! ### petrinetref09.arcs, place -/
def prevAt' (l : List S70) (i : Nat) : Option Int := if i = 0 then none else some (rd_T70 l ((i - 1 : Nat) : Int)).f0
set_option maxRecDepth 100000 in
set_option maxHeartbeats 8000000 in
theorem refArcs_in (nm : ByteArray) (A1 : Option Addr) (n1 c1 : Nat) (A2 : Option Addr) (n2 c2 : Nat) (B : Option Addr) (e : Nat) (l : List S70) (w : World) (hl : Kd.C k70 w B l.length l) (h1 : n1 ≤ 9223372036854775807) :
    Calls Try.prog 59 #[.agg #[.string nm, .slice A1 n1 c1, .slice A2 n2 c2], .slice B l.length e] w fun e w' => e = .returned (.int .i64 (chkArcs (n1 : Int) none l)) ∧ Below w.heap.size w w' := by
  have H0 := (Held.refl w).push (.cells #[.string nm, .slice A1 n1 c1, .slice A2 n2 c2] 25)
  have hmx := Kd.C_max hl
  have hC := Aside0.mk (Kd.C_below hl H0.bel)
  obtain ⟨W0, hW0⟩ : ∃ W0, w.alloc (.cells #[.string nm, .slice A1 n1 c1, .slice A2 n2 c2] 25) = W0 := ⟨_, rfl⟩
  rw [hW0] at H0 hC
  have g1 := H0.cell 0 1 rfl rfl
  have fin : Aside0 (∀ n, Below w.heap.size w (W0.drewN n)) := ⟨fun n => (H0.drewN n).bel⟩
  replace hW0 := Aside0.mk hW0
  clear H0 hl
  go_enter Try.func59, Try.ntmps59
  go_wp2
  rw [hW0.out]
  clear hW0
  go_loopw [5] (fun i wr => ∃ (j n : Nat), i = .int .i64 j ∧ j ≤ l.length ∧ wr = W0.drewN n ∧ Aside0 (chkArcs (n1 : Int) (prevAt' l j) (l.drop j) = chkArcs (n1 : Int) none l)) (fun i _ => l.length - (intOf i).toNat)
  case atStart => exact ⟨0, 0, rfl, Nat.zero_le _, rfl, ⟨by simp [prevAt']⟩⟩
  case round =>
    obtain ⟨j, n, rfl, hj, rfl, hgo⟩ := hrel
    by_cases hlt : j < l.length
    · obtain ⟨ad, hA, q0, q1⟩ := at_T70 hC.out (j : Int) (by omega) (by omega)
      subst hA
      simp only [Int.toNat_natCast] at q0 q1
      obtain ⟨x, hx⟩ : ∃ x, rd_T70 l (j : Int) = x := ⟨_, rfl⟩
      have hg := hgo.out
      rw [rdA_drop hlt, hx, chkArcs] at hg
      have hnext : Aside0 (prevAt' l (j + 1) = some x.f0) := ⟨by rw [prevAt', if_neg (by omega), Nat.add_sub_cancel, hx]⟩
      rw [hx] at q0 q1
      have hlt2 := Aside0.mk (show j + 1 ≤ l.length from hlt)
      clear hx hgo
      by_cases c1 : x.f0 < 0
      · have d1 : decide (x.f0 < 0) = true := decide_eq_true c1
        rw [if_pos (.inl c1)] at hg
        replace hg := Aside0.mk hg
        clear c1
        go_wp2
        go_quiet (fail)
        go_wp2
        go_ret
        exact ⟨by rw [← hg.out]; rfl, by rw [World.drewN_drewN]; exact fin.out _⟩
      · have d1 : decide (x.f0 < 0) = false := decide_eq_false c1
        by_cases c2 : (n1 : Int) ≤ x.f0
        · have d2 : decide ((n1 : Int) ≤ x.f0) = true := decide_eq_true c2
          rw [if_pos (.inr c2)] at hg
          replace hg := Aside0.mk hg
          clear c1 c2
          go_wp2
          go_quiet (fail)
          go_wp2
          go_ret
          exact ⟨by rw [← hg.out]; rfl, by rw [World.drewN_drewN]; exact fin.out _⟩
        · have d2 : decide ((n1 : Int) ≤ x.f0) = false := decide_eq_false c2
          rw [if_neg (by omega)] at hg
          clear c1 c2
          by_cases hj0 : j = 0
          · rw [if_neg (by simp [prevAt', hj0])] at hg
            have d3 : decide ((0 : Int) < (j : Int)) = false := by simp; omega
            have d3' : decide (0 < j) = false := by simp; omega
            clear hj0
            by_cases c5 : x.f1 < 1
            · have d5 : decide (x.f1 < 1) = true := decide_eq_true c5
              rw [if_pos (.inl c5)] at hg
              replace hg := Aside0.mk hg
              clear c5
              go_wp2
              repeat (go_quiet (fail); try go_wp2)
              go_ret
              exact ⟨by rw [← hg.out]; rfl, by (try simp only [World.drewN_drewN]); exact fin.out _⟩
            · have d5 : decide (x.f1 < 1) = false := decide_eq_false c5
              by_cases c6 : 99 < x.f1
              · have d6 : decide (99 < x.f1) = true := decide_eq_true c6
                rw [if_pos (.inr c6)] at hg
                replace hg := Aside0.mk hg
                clear c5 c6
                go_wp2
                repeat (go_quiet (fail); try go_wp2)
                go_ret
                exact ⟨by rw [← hg.out]; rfl, by (try simp only [World.drewN_drewN]); exact fin.out _⟩
              · have d6 : decide (99 < x.f1) = false := decide_eq_false c6
                rw [if_neg (by omega)] at hg
                replace hg := Aside0.mk hg
                clear c5 c6
                go_wp2
                repeat (go_quiet (fail); try go_wp2)
                go_roundw
                case rel => exact ⟨j + 1, _, by go_num, hlt2.out, by first | rfl | simp only [World.drewN_drewN], ⟨by rw [hnext.out]; exact hg.out⟩⟩
                case measure => have := hlt2.out; simp [intOf]; omega
          · obtain ⟨ad', hA', z0, _⟩ := at_T70 hC.out ((j - 1 : Nat) : Int) (by omega) (by omega)
            cases hA'
            simp only [Int.toNat_natCast] at z0
            obtain ⟨z, hz⟩ : ∃ z, (rd_T70 l ((j - 1 : Nat) : Int)).f0 = z := ⟨_, rfl⟩
            have hpv : prevAt' l j = some z := by rw [prevAt', if_neg hj0, hz]
            rw [hz] at z0
            rw [hpv] at hg
            have d3 : decide ((0 : Int) < (j : Int)) = true := by simp; omega
            have d3' : decide (0 < j) = true := by simp; omega
            have s5 : 0 < j := by omega
            have s6 : 1 ≤ (j : Int) := by omega
            have s1 : IntKind.i64.wrap ((j : Int) - 1) = (j : Int) - 1 := IntWalk.i64_in _ (by omega)
            have s2 : 0 ≤ (j : Int) - 1 := by omega
            have s3 : ((j : Int) - 1).toNat = j - 1 := by omega
            have s4 : (j : Int) - 1 < (l.length : Int) := by omega
            clear hpv hz hj0
            by_cases c4 : x.f0 ≤ z
            · have d4 : decide (x.f0 ≤ z) = true := decide_eq_true c4
              rw [if_pos ⟨z, rfl, c4⟩] at hg
              replace hg := Aside0.mk hg
              clear c4
              go_wp2
              repeat (go_quiet (fail); try go_wp2)
              go_ret
              exact ⟨by rw [← hg.out]; rfl, by (try simp only [World.drewN_drewN]); exact fin.out _⟩
            · have d4 : decide (x.f0 ≤ z) = false := decide_eq_false c4
              rw [if_neg (fun ⟨q, h1, h2⟩ => by injection h1 with h1; omega)] at hg
              clear c4
              by_cases c5 : x.f1 < 1
              · have d5 : decide (x.f1 < 1) = true := decide_eq_true c5
                rw [if_pos (.inl c5)] at hg
                replace hg := Aside0.mk hg
                clear c5
                go_wp2
                repeat (go_quiet (fail); try go_wp2)
                go_ret
                exact ⟨by rw [← hg.out]; rfl, by (try simp only [World.drewN_drewN]); exact fin.out _⟩
              · have d5 : decide (x.f1 < 1) = false := decide_eq_false c5
                by_cases c6 : 99 < x.f1
                · have d6 : decide (99 < x.f1) = true := decide_eq_true c6
                  rw [if_pos (.inr c6)] at hg
                  replace hg := Aside0.mk hg
                  clear c5 c6
                  go_wp2
                  repeat (go_quiet (fail); try go_wp2)
                  go_ret
                  exact ⟨by rw [← hg.out]; rfl, by (try simp only [World.drewN_drewN]); exact fin.out _⟩
                · have d6 : decide (99 < x.f1) = false := decide_eq_false c6
                  rw [if_neg (by omega)] at hg
                  replace hg := Aside0.mk hg
                  clear c5 c6
                  go_wp2
                  repeat (go_quiet (fail); try go_wp2)
                  go_roundw
                  case rel => exact ⟨j + 1, _, by go_num, hlt2.out, by first | rfl | simp only [World.drewN_drewN], ⟨by rw [hnext.out]; exact hg.out⟩⟩
                  case measure => have := hlt2.out; simp [intOf]; omega
    · obtain rfl : j = l.length := by omega
      have hg := hgo.out
      rw [List.drop_length, chkArcs] at hg
      replace hg := Aside0.mk hg
      clear hgo
      go_wp2
      go_ret
      exact ⟨by rw [← hg.out]; rfl, fin.out _⟩

def nmP (ps : List S65) : List ByteArray := ps.map (·.f0)
def nmT (ts : List S68) : List ByteArray := ts.map (·.f0)
theorem any_drop_cons {ns : List ByteArray} {j : Nat} (hj : j < ns.length) (s : ByteArray) : (ns.drop j).any (fun y => y.toList == s.toList) = ((ns.getD j ByteArray.empty).toList == s.toList || (ns.drop (j + 1)).any (fun y => y.toList == s.toList)) := by
  rw [List.drop_eq_getElem_cons hj, List.any_cons, List.getD_eq_getElem?_getD, List.getElem?_eq_getElem hj]; rfl
theorem nmP_take_get (ps : List S65) (i j : Nat) (hj : j < ps.length) (hi : j < i) : (nmP (ps.take i)).getD j ByteArray.empty = (rd_T65 ps (j : Int)).f0 := by
  rw [List.getD_eq_getElem?_getD, nmP, List.getElem?_map, List.getElem?_take, if_pos hi, List.getElem?_eq_getElem hj, rd_T65, Int.toNat_natCast, List.getD_eq_getElem?_getD, List.getElem?_eq_getElem hj]; rfl
theorem nmP_get (ps : List S65) (j : Nat) (hj : j < ps.length) : (nmP ps).getD j ByteArray.empty = (rd_T65 ps (j : Int)).f0 := by
  rw [List.getD_eq_getElem?_getD, nmP, List.getElem?_map, List.getElem?_eq_getElem hj, rd_T65, Int.toNat_natCast, List.getD_eq_getElem?_getD, List.getElem?_eq_getElem hj]; rfl
theorem nmT_get (ts : List S68) (i j : Nat) (hj : j < ts.length) (hi : j < i) : (nmT (ts.take i)).getD j ByteArray.empty = (rd_T68 ts (j : Int)).f0 := by
  rw [List.getD_eq_getElem?_getD, nmT, List.getElem?_map, List.getElem?_take, if_pos hi, List.getElem?_eq_getElem hj, rd_T68, Int.toNat_natCast, List.getD_eq_getElem?_getD, List.getElem?_eq_getElem hj]; rfl
set_option maxRecDepth 100000 in
set_option maxHeartbeats 8000000 in
theorem refPlace_in (nm : ByteArray) (A1 : Option Addr) (c1 : Nat) (ps : List S65) (A2 : Option Addr) (n2 c2 : Nat) (i : Nat) (w : World) (hp : Kd.C k65 w A1 ps.length ps) (hi : i < ps.length) :
    Calls Try.prog 42 #[.agg #[.string nm, .slice A1 ps.length c1, .slice A2 n2 c2], .int .i64 i] w fun e w' => e = .returned (.int .i64 (plE (nmP (ps.take i)) (rd_T65 ps (i : Int)))) ∧ Below w.heap.size w w' := by
  have hmx := Kd.C_max hp
  have hbN := below_alloc (Below.refl w.heap.size w) (.cells #[.string nm, .slice A1 ps.length c1, .slice A2 n2 c2] 25)
  obtain ⟨ad, hA, q0, q1, q2⟩ := at_T65 (Kd.C_below hp hbN) (i : Int) (by omega) (by omega)
  subst hA
  simp only [Int.toNat_natCast] at q0 q1 q2
  obtain ⟨x, hx⟩ : ∃ x, rd_T65 ps (i : Int) = x := ⟨_, rfl⟩
  rw [hx] at q0 q1 q2 ⊢
  have H0 := ((Held.refl w).push (.cells #[.string nm, .slice (some ad) ps.length c1, .slice A2 n2 c2] 25)).push (.cells #[.string x.f0, .int .i64 x.f1, .int .i64 x.f2] 65)
  obtain ⟨W0, hW0⟩ : ∃ W0, (w.alloc (.cells #[.string nm, .slice (some ad) ps.length c1, .slice A2 n2 c2] 25)).alloc (.cells #[.string x.f0, .int .i64 x.f1, .int .i64 x.f2] 65) = W0 := ⟨_, rfl⟩
  rw [hW0] at H0
  simp only [World.size_alloc] at H0
  have g1 := H0.cell 1 1 rfl rfl
  have t0 := H0.cell 0 0 rfl rfl
  have t1 := H0.cell 0 1 rfl rfl
  have t2 := H0.cell 0 2 rfl rfl
  have hC := Aside0.mk (Kd.C_below hp H0.bel)
  have fin : Aside0 (∀ n, Below w.heap.size w (W0.drewN n)) := ⟨fun n => (H0.drewN n).bel⟩
  have fin0 : Aside0 (Below w.heap.size w W0) := ⟨H0.bel⟩
  have hname := Aside0.mk (refName_in x.f0 W0)
  obtain ⟨E, hE⟩ : ∃ E, plE (nmP (ps.take i)) x = E := ⟨_, rfl⟩
  rw [hE]
  have hlen : (nmP (ps.take i)).length = i := by simp [nmP]; omega
  have hget : ∀ k, k < i → (nmP (ps.take i)).getD k ByteArray.empty = (rd_T65 ps (k : Int)).f0 := fun k hk => nmP_take_get ps i k (by omega) hk
  obtain ⟨ns, hns⟩ : ∃ ns, nmP (ps.take i) = ns := ⟨_, rfl⟩
  rw [hns] at hE hlen hget
  replace hget := Aside0.mk hget
  replace hlen := Aside0.mk hlen
  replace hE := Aside0.mk hE
  replace hW0 := Aside0.mk hW0
  clear hp hbN hns H0 hx
  go_enter Try.func42, Try.ntmps42
  go_wp2_with fail
  rw [hW0.out]
  clear hW0 q0 q1 q2
  refine hname.out.mono ?_
  rintro e w' ⟨rfl, rfl⟩
  cases hn : nameB x.f0 with
  | false =>
    have hr : E = 5 := by rw [← hE.out]; simp [plE, addC, hn]
    clear hname
    go_wp2
    go_ret
    exact ⟨by rw [hr]; rfl, fin0.out⟩
  | true =>
    have hE2 : E = if (ns.drop 0).any (fun y => y.toList == x.f0.toList) = true then 6 else chkPlace x := by
      rw [← hE.out]
      simp only [plE, addC, hn, if_true, List.drop_zero]
      cases ns.any (fun y => y.toList == x.f0.toList) <;> simp
    replace hE2 := Aside0.mk hE2
    clear hname hE
    go_wp2
    go_loopw [6] (fun v wr => ∃ (k n : Nat), v = .int .i64 k ∧ k ≤ i ∧ wr = W0.drewN n ∧ Aside0 (E = if (ns.drop k).any (fun y => y.toList == x.f0.toList) = true then 6 else chkPlace x)) (fun v _ => i - (intOf v).toNat)
    case atStart => exact ⟨0, 0, rfl, Nat.zero_le _, rfl, hE2⟩
    case round =>
      clear hE2
      obtain ⟨k, n, rfl, hk, rfl, hEk⟩ := hrel
      by_cases hlt : k < i
      · obtain ⟨ap, hAp, z0, _, _⟩ := at_T65 hC.out (k : Int) (by omega) (by omega)
        cases hAp
        simp only [Int.toNat_natCast] at z0
        have hEk2 := hEk.out
        rw [any_drop_cons (by rw [hlen.out]; exact hlt), hget.out k hlt] at hEk2
        obtain ⟨y, hy⟩ : ∃ y, (rd_T65 ps (k : Int)).f0 = y := ⟨_, rfl⟩
        rw [hy] at z0 hEk2
        have hlt2 := Aside0.mk (show k + 1 ≤ i from hlt)
        have hkp : k < ps.length := by omega
        clear hy hEk
        cases hb : (y.toList == x.f0.toList) with
        | true =>
          rw [hb, Bool.true_or, if_pos rfl] at hEk2
          replace hEk2 := Aside0.mk hEk2
          go_wp2
          repeat (go_quiet (fail); try go_wp2)
          go_ret
          exact ⟨by rw [hEk2.out]; rfl, by (try simp only [World.drewN_drewN]); exact fin.out _⟩
        | false =>
          rw [hb, Bool.false_or] at hEk2
          replace hEk2 := Aside0.mk hEk2
          go_wp2
          repeat (go_quiet (fail); try go_wp2)
          go_roundw
          case rel => exact ⟨k + 1, _, by go_num, hlt2.out, by first | rfl | simp only [World.drewN_drewN], hEk2⟩
          case measure => have := hlt2.out; simp [intOf]; omega
      · obtain rfl : k = i := by omega
        have hEk2 := hEk.out
        rw [List.drop_of_length_le (by rw [hlen.out]; exact Nat.le_refl _)] at hEk2
        simp only [List.any_nil, if_neg (show ¬ (false = true) by decide)] at hEk2
        rw [chkPlace] at hEk2
        clear hEk
        by_cases c1 : x.f2 < 0
        · have d1 : decide (x.f2 < 0) = true := decide_eq_true c1
          rw [if_pos (.inl c1)] at hEk2
          replace hEk2 := Aside0.mk hEk2
          clear c1
          go_wp2
          go_ret
          exact ⟨by rw [hEk2.out]; rfl, fin.out _⟩
        · have d1 : decide (x.f2 < 0) = false := decide_eq_false c1
          by_cases c2 : 1048576 < x.f2
          · have d2 : decide (1048576 < x.f2) = true := decide_eq_true c2
            rw [if_pos (.inr c2)] at hEk2
            replace hEk2 := Aside0.mk hEk2
            clear c1 c2
            go_wp2
            go_ret
            exact ⟨by rw [hEk2.out]; rfl, fin.out _⟩
          · have d2 : decide (1048576 < x.f2) = false := decide_eq_false c2
            rw [if_neg (by omega)] at hEk2
            by_cases c3 : x.f1 < 0
            · have d3 : decide (x.f1 < 0) = true := decide_eq_true c3
              rw [if_pos (.inl c3)] at hEk2
              replace hEk2 := Aside0.mk hEk2
              clear c1 c2 c3
              go_wp2
              go_ret
              exact ⟨by rw [hEk2.out]; rfl, fin.out _⟩
            · have d3 : decide (x.f1 < 0) = false := decide_eq_false c3
              by_cases c4 : 1048576 < x.f1
              · have d4 : decide (1048576 < x.f1) = true := decide_eq_true c4
                rw [if_pos (.inr (.inl c4))] at hEk2
                replace hEk2 := Aside0.mk hEk2
                clear c1 c2 c3 c4
                go_wp2
                go_ret
                exact ⟨by rw [hEk2.out]; rfl, fin.out _⟩
              · have d4 : decide (1048576 < x.f1) = false := decide_eq_false c4
                by_cases c5 : x.f2 = 0
                · have d5 : (x.f2 != (0 : Int)) = false := by simp [c5]
                  rw [if_neg (by omega)] at hEk2
                  replace hEk2 := Aside0.mk hEk2
                  clear c1 c2 c3 c4 c5
                  go_wp2
                  go_ret
                  exact ⟨by rw [hEk2.out]; rfl, fin.out _⟩
                · have d5 : (x.f2 != (0 : Int)) = true := by simp [c5]
                  by_cases c6 : x.f2 < x.f1
                  · have d6 : decide (x.f2 < x.f1) = true := decide_eq_true c6
                    rw [if_pos (.inr (.inr ⟨c5, c6⟩))] at hEk2
                    replace hEk2 := Aside0.mk hEk2
                    clear c1 c2 c3 c4 c5 c6
                    go_wp2
                    go_ret
                    exact ⟨by rw [hEk2.out]; rfl, fin.out _⟩
                  · have d6 : decide (x.f2 < x.f1) = false := decide_eq_false c6
                    rw [if_neg (by omega)] at hEk2
                    replace hEk2 := Aside0.mk hEk2
                    clear c1 c2 c3 c4 c5 c6
                    go_wp2
                    go_ret
                    exact ⟨by rw [hEk2.out]; rfl, fin.out _⟩

/-! ### petrinetref09.trans -/
set_option maxRecDepth 100000 in
set_option maxHeartbeats 16000000 in
theorem refTrans_in (nm : ByteArray) (A1 : Option Addr) (c1 : Nat) (ps : List S65) (A2 : Option Addr) (c2 : Nat) (ts : List S68) (i : Nat) (w : World) (hp : Kd.C k65 w A1 ps.length ps) (hts : Kd.C k68 w A2 ts.length ts) (hi : i < ts.length) :
    Calls Try.prog 43 #[.agg #[.string nm, .slice A1 ps.length c1, .slice A2 ts.length c2], .int .i64 i] w fun e w' => e = .returned (.int .i64 (trE (ps.length : Int) (nmP ps ++ nmT (ts.take i)) (rd_T68 ts (i : Int)))) ∧ Below w.heap.size w w' := by
  have hmx := Kd.C_max hp
  have hmt := Kd.C_max hts
  have hbN := below_alloc (Below.refl w.heap.size w) (.cells #[.string nm, .slice A1 ps.length c1, .slice A2 ts.length c2] 25)
  obtain ⟨ad, B1, e1, B2, e2, B3, e3, hA, q0, q1, q2, q3, q4, n1', m1, n2', m2, n3', m3⟩ := at_T68 (Kd.C_below hts hbN) (i : Int) (by omega) (by omega)
  subst hA
  simp only [Int.toNat_natCast] at q0 q1 q2 q3 q4
  obtain ⟨x, hx⟩ : ∃ x, rd_T68 ts (i : Int) = x := ⟨_, rfl⟩
  rw [hx] at q0 q1 q2 q3 q4 n1' m1 n2' m2 n3' m3 ⊢
  have H0 := ((Held.refl w).push (.cells #[.string nm, .slice A1 ps.length c1, .slice (some ad) ts.length c2] 25)).push (.cells #[.string x.f0, .slice B1 x.f1.length e1, .slice B2 x.f2.length e2, .slice B3 x.f3.length e3, .int .i64 x.f4] 68)
  obtain ⟨W0, hW0⟩ : ∃ W0, (w.alloc (.cells #[.string nm, .slice A1 ps.length c1, .slice (some ad) ts.length c2] 25)).alloc (.cells #[.string x.f0, .slice B1 x.f1.length e1, .slice B2 x.f2.length e2, .slice B3 x.f3.length e3, .int .i64 x.f4] 68) = W0 := ⟨_, rfl⟩
  have hb2 := below_alloc (Below.refl (w.alloc (.cells #[.string nm, .slice A1 ps.length c1, .slice (some ad) ts.length c2] 25)).heap.size (w.alloc (.cells #[.string nm, .slice A1 ps.length c1, .slice (some ad) ts.length c2] 25))) (.cells #[.string x.f0, .slice B1 x.f1.length e1, .slice B2 x.f2.length e2, .slice B3 x.f3.length e3, .int .i64 x.f4] 68)
  rw [hW0] at H0 hb2
  replace m1 := Aside0.mk (Kd.C_below m1 hb2)
  replace m2 := Aside0.mk (Kd.C_below m2 hb2)
  replace m3 := Aside0.mk (Kd.C_below m3 hb2)
  simp only [World.size_alloc] at H0
  have g0 := H0.cell 1 0 rfl rfl
  have g1 := H0.cell 1 1 rfl rfl
  have g2 := H0.cell 1 2 rfl rfl
  have t0 := H0.cell 0 0 rfl rfl
  have t1 := H0.cell 0 1 rfl rfl
  have t2 := H0.cell 0 2 rfl rfl
  have t3 := H0.cell 0 3 rfl rfl
  have t4 := H0.cell 0 4 rfl rfl
  have hC := Aside0.mk (Kd.C_below hp H0.bel)
  have hD := Aside0.mk (Kd.C_below hts H0.bel)
  have hname := Aside0.mk (refName_in x.f0 W0)
  obtain ⟨E, hE⟩ : ∃ E, trE (ps.length : Int) (nmP ps ++ nmT (ts.take i)) x = E := ⟨_, rfl⟩
  rw [hE]
  have hlenP : (nmP ps).length = ps.length := by simp [nmP]
  have hgetP : ∀ k, k < ps.length → (nmP ps).getD k ByteArray.empty = (rd_T65 ps (k : Int)).f0 := fun k hk => nmP_get ps k hk
  have hlenT : (nmT (ts.take i)).length = i := by simp [nmT]; omega
  have hgetT : ∀ k, k < i → (nmT (ts.take i)).getD k ByteArray.empty = (rd_T68 ts (k : Int)).f0 := fun k hk => nmT_get ts i k (by omega) hk
  obtain ⟨np, hnp⟩ : ∃ np, nmP ps = np := ⟨_, rfl⟩
  obtain ⟨nt, hnt⟩ : ∃ nt, nmT (ts.take i) = nt := ⟨_, rfl⟩
  rw [hnp] at hE hlenP hgetP
  rw [hnt] at hE hlenT hgetT
  replace hgetP := Aside0.mk hgetP
  replace hlenP := Aside0.mk hlenP
  replace hgetT := Aside0.mk hgetT
  replace hlenT := Aside0.mk hlenT
  replace hE := Aside0.mk hE
  replace hW0 := Aside0.mk hW0
  replace H0 := Aside0.mk H0
  clear hp hbN hb2 hnp hnt hx hts
  go_enter Try.func43, Try.ntmps43
  go_wp2_with fail
  rw [hW0.out]
  clear hW0 q0 q1 q2 q3 q4
  refine hname.out.mono ?_
  rintro e w' ⟨rfl, rfl⟩
  cases hn : nameB x.f0 with
  | false =>
    have hr : E = 5 := by rw [← hE.out]; simp [trE, addC, hn]
    clear hname
    go_wp2
    go_ret
    exact ⟨by rw [hr]; rfl, H0.out.bel⟩
  | true =>
    have hE2 : E = if (np.drop 0).any (fun y => y.toList == x.f0.toList) = true then 6 else if (nt.drop 0).any (fun y => y.toList == x.f0.toList) = true then 6 else chkTrans (ps.length : Int) x := by
      rw [← hE.out]
      simp only [trE, addC, hn, if_true, List.drop_zero, List.any_append]
      cases np.any (fun y => y.toList == x.f0.toList) <;> cases nt.any (fun y => y.toList == x.f0.toList) <;> simp
    replace hE2 := Aside0.mk hE2
    clear hname hE
    go_wp2
    go_loopw [6] (fun v wr => ∃ (k n : Nat), v = .int .i64 k ∧ k ≤ ps.length ∧ wr = W0.drewN n ∧ Aside0 (E = if (np.drop k).any (fun y => y.toList == x.f0.toList) = true then 6 else if (nt.drop 0).any (fun y => y.toList == x.f0.toList) = true then 6 else chkTrans (ps.length : Int) x)) (fun v _ => ps.length - (intOf v).toNat)
    case atStart => exact ⟨0, 0, rfl, Nat.zero_le _, rfl, hE2⟩
    case round =>
      clear hE2
      obtain ⟨k, n, rfl, hk, rfl, hEk⟩ := hrel
      by_cases hlt : k < ps.length
      · obtain ⟨ap, hAp, z0, _, _⟩ := at_T65 hC.out (k : Int) (by omega) (by omega)
        subst hAp
        simp only [Int.toNat_natCast] at z0
        have hEk2 := hEk.out
        rw [any_drop_cons (by rw [hlenP.out]; exact hlt), hgetP.out k hlt] at hEk2
        obtain ⟨y, hy⟩ : ∃ y, (rd_T65 ps (k : Int)).f0 = y := ⟨_, rfl⟩
        rw [hy] at z0 hEk2
        have hlt2 := Aside0.mk (show k + 1 ≤ ps.length from hlt)
        clear hy hEk
        cases hb : (y.toList == x.f0.toList) with
        | true =>
          rw [hb, Bool.true_or, if_pos rfl] at hEk2
          replace hEk2 := Aside0.mk hEk2
          go_wp2
          repeat (go_quiet (fail); try go_wp2)
          go_ret
          exact ⟨by rw [hEk2.out]; rfl, by (try simp only [World.drewN_drewN]); exact (H0.out.drewN _).bel⟩
        | false =>
          rw [hb, Bool.false_or] at hEk2
          replace hEk2 := Aside0.mk hEk2
          go_wp2
          repeat (go_quiet (fail); try go_wp2)
          go_roundw
          case rel => exact ⟨k + 1, _, by go_num, hlt2.out, by first | rfl | simp only [World.drewN_drewN], hEk2⟩
          case measure => have := hlt2.out; simp [intOf]; omega
      · have hkE : k = ps.length := by omega
        subst hkE
        have hEk2 := hEk.out
        rw [List.drop_of_length_le (by rw [hlenP.out]; exact Nat.le_refl _)] at hEk2
        simp only [List.any_nil, if_neg (show ¬ (false = true) by decide)] at hEk2
        replace hEk2 := Aside0.mk hEk2
        clear hEk hgetP
        go_wp2
        go_loopw [7] (fun v wr => ∃ (k n : Nat), v = .int .i64 k ∧ k ≤ i ∧ wr = W0.drewN n ∧ Aside0 (E = if (nt.drop k).any (fun y => y.toList == x.f0.toList) = true then 6 else chkTrans (ps.length : Int) x)) (fun v _ => i - (intOf v).toNat)
        case atStart => exact ⟨0, n, rfl, Nat.zero_le _, rfl, hEk2⟩
        case round =>
          clear hEk2
          obtain ⟨k, n, rfl, hk, rfl, hEk⟩ := hrel
          by_cases hlt : k < i
          · obtain ⟨at', D1, f1, D2, f2, D3, f3, hAt, z0, _, _, _, _, _⟩ := at_T68 hD.out (k : Int) (by omega) (by omega)
            cases hAt
            simp only [Int.toNat_natCast] at z0
            have hEk2 := hEk.out
            rw [any_drop_cons (by rw [hlenT.out]; exact hlt), hgetT.out k hlt] at hEk2
            obtain ⟨y, hy⟩ : ∃ y, (rd_T68 ts (k : Int)).f0 = y := ⟨_, rfl⟩
            rw [hy] at z0 hEk2
            have hlt2 := Aside0.mk (show k + 1 ≤ i from hlt)
            have hkt : k < ts.length := by omega
            clear hy hEk
            cases hb : (y.toList == x.f0.toList) with
            | true =>
              rw [hb, Bool.true_or, if_pos rfl] at hEk2
              replace hEk2 := Aside0.mk hEk2
              go_wp2
              repeat (go_quiet (fail); try go_wp2)
              go_ret
              exact ⟨by rw [hEk2.out]; rfl, by (try simp only [World.drewN_drewN]); exact (H0.out.drewN _).bel⟩
            | false =>
              rw [hb, Bool.false_or] at hEk2
              replace hEk2 := Aside0.mk hEk2
              go_wp2
              repeat (go_quiet (fail); try go_wp2)
              go_roundw
              case rel => exact ⟨k + 1, _, by go_num, hlt2.out, by first | rfl | simp only [World.drewN_drewN], hEk2⟩
              case measure => have := hlt2.out; simp [intOf]; omega
          · obtain rfl : k = i := by omega
            have hEk2 := hEk.out
            rw [List.drop_of_length_le (by rw [hlenT.out]; exact Nat.le_refl _)] at hEk2
            simp only [List.any_nil, if_neg (show ¬ (false = true) by decide)] at hEk2
            rw [chkTrans] at hEk2
            have HN := H0.out.drewN n
            have ka := Aside0.mk (refArcs_in nm A1 ps.length c1 (some ad) ts.length c2 B1 e1 x.f1 (W0.drewN n) (Kd.C_drewN m1.out n) hmx)
            clear hEk hgetT
            by_cases c1' : x.f4 < 0
            · have d1 : decide (x.f4 < 0) = true := decide_eq_true c1'
              rw [if_pos (.inl c1')] at hEk2
              replace hEk2 := Aside0.mk hEk2
              clear c1' ka
              go_wp2
              go_ret
              exact ⟨by rw [hEk2.out]; rfl, HN.bel⟩
            · have d1 : decide (x.f4 < 0) = false := decide_eq_false c1'
              by_cases c2' : 9 < x.f4
              · have d2 : decide (9 < x.f4) = true := decide_eq_true c2'
                rw [if_pos (.inr c2')] at hEk2
                replace hEk2 := Aside0.mk hEk2
                clear c1' c2' ka
                go_wp2
                go_ret
                exact ⟨by rw [hEk2.out]; rfl, HN.bel⟩
              · have d2 : decide (9 < x.f4) = false := decide_eq_false c2'
                rw [if_neg (by omega)] at hEk2
                replace hEk2 := Aside0.mk hEk2
                replace HN := Aside0.mk HN
                clear c1' c2'
                go_wp2_with fail
                refine ka.out.mono ?_
                rintro e W1 ⟨rfl, hb1⟩
                have H1 := HN.out.below hb1
                have t2 := H1.cell 0 2 rfl rfl
                have g0 := H1.cell 1 0 rfl rfl
                have g1 := H1.cell 1 1 rfl rfl
                have g2 := H1.cell 1 2 rfl rfl
                have kb := Aside0.mk (refArcs_in nm A1 ps.length c1 (some ad) ts.length c2 B2 e2 x.f2 W1 (Kd.C_below (Kd.C_drewN m2.out n) hb1) hmx)
                have m3' := Aside0.mk (Kd.C_below (Kd.C_drewN m3.out n) hb1)
                obtain ⟨v1, hv1⟩ : ∃ v, chkArcs (ps.length : Int) none x.f1 = v := ⟨_, rfl⟩
                have hEk3 := hEk2.out
                rw [hv1] at hEk3 ⊢
                replace H1 := Aside0.mk H1
                clear ka hv1 hb1 hEk2 m1 m2 m3 HN
                by_cases z1 : v1 = 0
                · have b1 : (v1 != (0 : Int)) = false := by simp [z1]
                  rw [if_neg (by simp [z1])] at hEk3
                  replace hEk3 := Aside0.mk hEk3
                  clear z1
                  go_wp2_with fail
                  refine kb.out.mono ?_
                  rintro e W2 ⟨rfl, hb2⟩
                  have H2 := H1.out.below hb2
                  have t3 := H2.cell 0 3 rfl rfl
                  have g0 := H2.cell 1 0 rfl rfl
                  have g1 := H2.cell 1 1 rfl rfl
                  have g2 := H2.cell 1 2 rfl rfl
                  have kc := Aside0.mk (refArcs_in nm A1 ps.length c1 (some ad) ts.length c2 B3 e3 x.f3 W2 (Kd.C_below m3'.out hb2) hmx)
                  obtain ⟨v2, hv2⟩ : ∃ v, chkArcs (ps.length : Int) none x.f2 = v := ⟨_, rfl⟩
                  have hEk4 := hEk3.out
                  rw [hv2] at hEk4 ⊢
                  replace H2 := Aside0.mk H2
                  clear kb hv2 hb2 hEk3
                  by_cases z2 : v2 = 0
                  · have b2 : (v2 != (0 : Int)) = false := by simp [z2]
                    rw [if_neg (by simp [z2])] at hEk4
                    replace hEk4 := Aside0.mk hEk4
                    clear z2
                    go_wp2_with fail
                    refine kc.out.mono ?_
                    rintro e W3 ⟨rfl, hb3⟩
                    have H3 := Aside0.mk (H2.out.below hb3)
                    obtain ⟨v3, hv3⟩ : ∃ v, chkArcs (ps.length : Int) none x.f3 = v := ⟨_, rfl⟩
                    have hEk5 := hEk4.out
                    rw [hv3] at hEk5 ⊢
                    replace hEk5 := Aside0.mk hEk5
                    clear hv3 hb3 kc hEk4
                    go_wp2
                    go_ret
                    exact ⟨by rw [hEk5.out]; rfl, H3.out.bel⟩
                  · have b2 : (v2 != (0 : Int)) = true := by simp [z2]
                    rw [if_pos z2] at hEk4
                    replace hEk4 := Aside0.mk hEk4
                    clear z2 kc
                    go_wp2
                    go_ret
                    exact ⟨by rw [hEk4.out]; rfl, H2.out.bel⟩
                · have b1 : (v1 != (0 : Int)) = true := by simp [z1]
                  rw [if_pos z1] at hEk3
                  replace hEk3 := Aside0.mk hEk3
                  clear z1 kb
                  go_wp2
                  go_ret
                  exact ⟨by rw [hEk3.out]; rfl, H1.out.bel⟩

/-! ### petrinetref09.Check -/
theorem plE_zero {names : List ByteArray} {p : S65} (h : plE names p = 0) : addN names p.f0 = names ++ [p.f0] := by
  rw [plE] at h
  by_cases hc : addC names p.f0 = 0
  · rw [addN, if_pos hc]
  · rw [if_neg hc] at h; exact absurd h hc
theorem trE_zero {P : Int} {names : List ByteArray} {t : S68} (h : trE P names t = 0) : addN names t.f0 = names ++ [t.f0] := by
  rw [trE] at h
  by_cases hc : addC names t.f0 = 0
  · rw [addN, if_pos hc]
  · rw [if_neg hc] at h; exact absurd h hc
theorem take_rdP {l : List S65} {j : Nat} (h : j < l.length) : l.take (j + 1) = l.take j ++ [rd_T65 l (j : Int)] := by
  rw [List.take_succ_eq_append_getElem h, rd_T65, Int.toNat_natCast, List.getD_eq_getElem?_getD, List.getElem?_eq_getElem h]; rfl
theorem take_rdT' {l : List S68} {j : Nat} (h : j < l.length) : l.take (j + 1) = l.take j ++ [rd_T68 l (j : Int)] := by
  rw [List.take_succ_eq_append_getElem h, rd_T68, Int.toNat_natCast, List.getD_eq_getElem?_getD, List.getElem?_eq_getElem h]; rfl
def chH (b : Nat) (nm : ByteArray) (A1 : Option Addr) (n1 c1 : Nat) (A2 : Option Addr) (n2 c2 : Nat) : List (Nat × Obj) :=
  [(b + 1, .cells #[.int .i64 0, .int .i64 0] 38 (0, 0)), (b, .cells #[.string nm, .slice A1 n1 c1, .slice A2 n2 c2] 25 (0, 0))]
set_option maxRecDepth 100000 in
set_option maxHeartbeats 8000000 in
theorem refCheck_in (nm : ByteArray) (A1 : Option Addr) (c1 : Nat) (ps : List S65) (A2 : Option Addr) (c2 : Nat) (ts : List S68) (w : World) (hp : Kd.C k65 w A1 ps.length ps) (hts : Kd.C k68 w A2 ts.length ts) :
    Calls Try.prog 26 #[.agg #[.string nm, .slice A1 ps.length c1, .slice A2 ts.length c2]] w fun e w' => e = .returned (.agg #[.int .i64 (chkNet nm ps ts).1, .int .i64 (chkNet nm ps ts).2]) ∧ Below w.heap.size w w' := by
  have hmx := Kd.C_max hp
  have hmt := Kd.C_max hts
  have H0 := ((Held.refl w).push (.cells #[.string nm, .slice A1 ps.length c1, .slice A2 ts.length c2] 25)).push (.cells #[.int .i64 0, .int .i64 0] 38)
  obtain ⟨W0, hW0⟩ : ∃ W0, (w.alloc (.cells #[.string nm, .slice A1 ps.length c1, .slice A2 ts.length c2] 25)).alloc (.cells #[.int .i64 0, .int .i64 0] 38) = W0 := ⟨_, rfl⟩
  rw [hW0] at H0
  simp only [World.size_alloc] at H0
  replace H0 := show Held w (chH w.heap.size nm A1 ps.length c1 A2 ts.length c2) W0 from H0
  have hname := Aside0.mk (refName_in nm W0)
  have n0 := H0.cell 1 0 rfl rfl
  have n1 := H0.cell 1 1 rfl rfl
  have n2 := H0.cell 1 2 rfl rfl
  have r0 := H0.cell 0 0 rfl rfl
  have r1 := H0.cell 0 1 rfl rfl
  have f0 := H0.free 0 0 rfl
  have f1 := H0.free 0 1 rfl
  obtain ⟨⟨E1, E2⟩, hE⟩ : ∃ E, chkNet nm ps ts = E := ⟨_, rfl⟩
  rw [hE]
  -- the result is laid, and handed back
  have fin : Aside0 (∀ (W : World) (x y : Int) (t : Array Value), Held w (chH w.heap.size nm A1 ps.length c1 A2 ts.length c2) W → (x, y) = (E1, E2) → t[2]?.getD undef = .pointer (some ⟨w.heap.size + 1, 0, none⟩) →
      bodyPost Try.prog Try.f26 (fun e w' => e = .returned (.agg #[.int .i64 E1, .int .i64 E2]) ∧ Below w.heap.size w w') .ret { tmps := t, defers := [] } ((W.setCell ⟨w.heap.size + 1, 0, none⟩ (.int .i64 x)).setCell ⟨w.heap.size + 1, 1, none⟩ (.int .i64 y))) := ⟨by
    intro W x y t hW hxy h2
    injection hxy with h3 h4
    subst h3 h4
    have HE := (hW.set 0 0 rfl (.int .i64 x)).set 0 1 rfl (.int .i64 y)
    have z0 := HE.cell 0 0 rfl rfl
    have z1 := HE.cell 0 1 rfl rfl
    exact bodyPost_ret (v := .agg #[.int .i64 x, .int .i64 y]) (by simp [results, Try.f26, go_sem, h2, z0, z1]) rfl ⟨rfl, HE.bel⟩⟩
  replace H0 := Aside0.mk H0
  replace hE := Aside0.mk hE
  replace hW0 := Aside0.mk hW0
  go_enter Try.func26, Try.ntmps26
  go_wp2_with fail
  rw [hW0.out]
  clear hW0
  refine hname.out.mono ?_
  rintro e w' ⟨rfl, rfl⟩
  clear hname
  cases hn : nameB nm with
  | false =>
    have hr := hE.out
    rw [chkNet, if_pos hn] at hr
    replace hr := Aside0.mk hr
    clear hE
    go_wp2
    exact fin.out _ _ _ _ H0.out hr.out rfl
  | true =>
    have hg := hE.out
    rw [chkNet, if_neg (by simp [hn])] at hg
    replace hg := Aside0.mk hg
    clear hE
    by_cases g1 : ps.length < 1
    · have d1 : decide ((ps.length : Int) < 1) = true := by simp; omega
      have hr := Aside0.mk (hg.out)
      have hr2 := hr.out
      rw [if_pos (.inl g1)] at hr2
      replace hr2 := Aside0.mk hr2
      clear g1 hg hr
      go_wp2
      exact fin.out _ _ _ _ H0.out hr2.out rfl
    · have d1 : decide ((ps.length : Int) < 1) = false := by simp; omega
      by_cases g2 : 24 < ps.length
      · have d2 : decide ((24 : Int) < (ps.length : Int)) = true := by simp; omega
        have hr2 := hg.out
        rw [if_pos (.inr (.inl g2))] at hr2
        replace hr2 := Aside0.mk hr2
        clear g1 g2 hg
        go_wp2
        exact fin.out _ _ _ _ H0.out hr2.out rfl
      · have d2 : decide ((24 : Int) < (ps.length : Int)) = false := by simp; omega
        by_cases g3 : 24 < ts.length
        · have d3 : decide ((24 : Int) < (ts.length : Int)) = true := by simp; omega
          have hr2 := hg.out
          rw [if_pos (.inr (.inr g3))] at hr2
          replace hr2 := Aside0.mk hr2
          clear g1 g2 g3 hg
          go_wp2
          exact fin.out _ _ _ _ H0.out hr2.out rfl
        · have d3 : decide ((24 : Int) < (ts.length : Int)) = false := by simp; omega
          have hr2 := hg.out
          rw [if_neg (by omega)] at hr2
          replace hr2 := Aside0.mk hr2
          clear hg
          go_wp2
          go_loopw [3] (fun v wr => ∃ j : Nat, v = .int .i64 j ∧ j ≤ ps.length ∧ Aside0 (Held w (chH w.heap.size nm A1 ps.length c1 A2 ts.length c2) wr) ∧ Aside0 (goPl j (nmP (ps.take j)) (ps.drop j) = goPl 0 [] ps)) (fun v _ => ps.length - (intOf v).toNat)
          case atStart => exact ⟨0, rfl, Nat.zero_le _, H0, ⟨rfl⟩⟩
          case round =>
            clear H0 n0 n1 n2 r0 r1 f0 f1
            obtain ⟨j, rfl, hj, hH, hgo⟩ := hrel
            have n0 := hH.out.cell 1 0 rfl rfl
            have n1 := hH.out.cell 1 1 rfl rfl
            have n2 := hH.out.cell 1 2 rfl rfl
            by_cases hlt : j < ps.length
            · have hcall := Aside0.mk (refPlace_in nm A1 c1 ps A2 ts.length c2 j wr (Kd.C_below hp hH.out.bel) hlt)
              have hgo2 := hgo.out
              rw [rdP_drop hlt, goPl] at hgo2
              have htk : Aside0 (nmP (ps.take j) ++ [(rd_T65 ps (j : Int)).f0] = nmP (ps.take (j + 1))) := ⟨by rw [take_rdP hlt]; simp [nmP]⟩
              have hzero : Aside0 (plE (nmP (ps.take j)) (rd_T65 ps (j : Int)) = 0 → addN (nmP (ps.take j)) (rd_T65 ps (j : Int)).f0 = nmP (ps.take j) ++ [(rd_T65 ps (j : Int)).f0]) := ⟨plE_zero⟩
              obtain ⟨v, hv⟩ : ∃ v, plE (nmP (ps.take j)) (rd_T65 ps (j : Int)) = v := ⟨_, rfl⟩
              rw [hv] at hgo2 hcall hzero
              replace hgo2 := Aside0.mk hgo2
              have hlt2 := Aside0.mk (show j + 1 ≤ ps.length from hlt)
              clear hv hgo
              go_wp2_with fail
              refine hcall.out.mono ?_
              rintro e W1 ⟨rfl, hb⟩
              have H1 := hH.out.below hb
              have r0 := H1.cell 0 0 rfl rfl
              have r1 := H1.cell 0 1 rfl rfl
              have f0 := H1.free 0 0 rfl
              have f1 := H1.free 0 1 rfl
              replace H1 := Aside0.mk H1
              clear hcall hb
              by_cases hz : v = 0
              · have b1 : (v != (0 : Int)) = false := by simp [hz]
                have hgo3 := hgo2.out
                rw [if_pos hz, hzero.out hz, htk.out] at hgo3
                replace hgo3 := Aside0.mk hgo3
                clear hz hgo2 hzero htk
                go_wp2
                go_roundw
                case rel => exact ⟨j + 1, by go_num, hlt2.out, H1, hgo3⟩
                case measure => have := hlt2.out; simp [intOf]; omega
              · have b1 : (v != (0 : Int)) = true := by simp [hz]
                have hr3 := hr2.out
                have hgo3 := hgo2.out
                rw [if_neg hz] at hgo3
                rw [← hgo3] at hr3
                replace hr3 := Aside0.mk hr3
                clear hz hgo2 hgo3 hr2
                go_wp2
                exact fin.out _ _ _ _ H1.out hr3.out rfl
            · obtain rfl : j = ps.length := by omega
              have hgo2 := hgo.out
              rw [List.drop_length, goPl, List.take_length] at hgo2
              have hr3 := hr2.out
              rw [← hgo2] at hr3
              have hr4 : goTr (ps.length : Int) 0 (nmP ps) ts = (E1, E2) := hr3
              replace hr4 := Aside0.mk hr4
              clear hr3 hgo2 hgo hr2
              go_wp2
              go_loopw [5] (fun v wr => ∃ j : Nat, v = .int .i64 j ∧ j ≤ ts.length ∧ Aside0 (Held w (chH w.heap.size nm A1 ps.length c1 A2 ts.length c2) wr) ∧ Aside0 (goTr (ps.length : Int) j (nmP ps ++ nmT (ts.take j)) (ts.drop j) = (E1, E2))) (fun v _ => ts.length - (intOf v).toNat)
              case atStart => exact ⟨0, rfl, Nat.zero_le _, hH, ⟨by simpa [nmT] using hr4.out⟩⟩
              case round =>
                clear hH n0 n1 n2 hr4
                obtain ⟨j, rfl, hj, hH, hgo⟩ := hrel
                have n0 := hH.out.cell 1 0 rfl rfl
                have n1 := hH.out.cell 1 1 rfl rfl
                have n2 := hH.out.cell 1 2 rfl rfl
                by_cases hlt : j < ts.length
                · have hcall := Aside0.mk (refTrans_in nm A1 c1 ps A2 c2 ts j wr (Kd.C_below hp hH.out.bel) (Kd.C_below hts hH.out.bel) hlt)
                  have hgo2 := hgo.out
                  rw [rdT_drop hlt, goTr] at hgo2
                  have htk : Aside0 (nmP ps ++ nmT (ts.take j) ++ [(rd_T68 ts (j : Int)).f0] = nmP ps ++ nmT (ts.take (j + 1))) := ⟨by rw [take_rdT' hlt]; simp [nmT]⟩
                  have hzero : Aside0 (trE (ps.length : Int) (nmP ps ++ nmT (ts.take j)) (rd_T68 ts (j : Int)) = 0 → addN (nmP ps ++ nmT (ts.take j)) (rd_T68 ts (j : Int)).f0 = nmP ps ++ nmT (ts.take j) ++ [(rd_T68 ts (j : Int)).f0]) := ⟨trE_zero⟩
                  obtain ⟨v, hv⟩ : ∃ v, trE (ps.length : Int) (nmP ps ++ nmT (ts.take j)) (rd_T68 ts (j : Int)) = v := ⟨_, rfl⟩
                  rw [hv] at hgo2 hcall hzero
                  replace hgo2 := Aside0.mk hgo2
                  have hlt2 := Aside0.mk (show j + 1 ≤ ts.length from hlt)
                  clear hv hgo
                  go_wp2_with fail
                  refine hcall.out.mono ?_
                  rintro e W1 ⟨rfl, hb⟩
                  have H1 := hH.out.below hb
                  have r0 := H1.cell 0 0 rfl rfl
                  have r1 := H1.cell 0 1 rfl rfl
                  have f0 := H1.free 0 0 rfl
                  have f1 := H1.free 0 1 rfl
                  have n1 := H1.cell 1 1 rfl rfl
                  replace H1 := Aside0.mk H1
                  clear hcall hb
                  by_cases hz : v = 0
                  · have b1 : (v != (0 : Int)) = false := by simp [hz]
                    have hgo3 := hgo2.out
                    rw [if_pos hz, hzero.out hz, htk.out] at hgo3
                    replace hgo3 := Aside0.mk hgo3
                    clear hz hgo2 hzero htk
                    go_wp2
                    go_roundw
                    case rel => exact ⟨j + 1, by go_num, hlt2.out, H1, hgo3⟩
                    case measure => have := hlt2.out; simp [intOf]; omega
                  · have b1 : (v != (0 : Int)) = true := by simp [hz]
                    have hgo3 := hgo2.out
                    rw [if_neg hz] at hgo3
                    replace hgo3 := Aside0.mk hgo3
                    clear hz hgo2 hzero htk
                    go_wp2
                    exact fin.out _ _ _ _ H1.out hgo3.out rfl
                · obtain rfl : j = ts.length := by omega
                  have hgo2 := hgo.out
                  rw [List.drop_length, goTr] at hgo2
                  have r0 := hH.out.cell 0 0 rfl rfl
                  have r1 := hH.out.cell 0 1 rfl rfl
                  have f0 := hH.out.free 0 0 rfl
                  have f1 := hH.out.free 0 1 rfl
                  replace hgo2 := Aside0.mk hgo2
                  clear hgo
                  go_wp2
                  exact fin.out _ _ _ _ hH.out hgo2.out rfl
def petrinetref09_Check.f (a0_0 : ByteArray) (l0_1 : List (S65)) (l0_2 : List (S68)) : Option (Int × Int) := some (chkNet a0_0 l0_1 l0_2)
theorem petrinetref09_Check.calls (a0_0 : ByteArray) (A0_1 : Option Addr) (c0_1 : Nat) (l0_1 : List (S65)) (A0_2 : Option Addr) (c0_2 : Nat) (l0_2 : List (S68)) (r1 : Int) (r2 : Int) (w : World) (hr0_1 : Kd.C k65 w A0_1 l0_1.length l0_1) (hc0_1 : l0_1.length ≤ c0_1) (hr0_2 : Kd.C k68 w A0_2 l0_2.length l0_2) (hc0_2 : l0_2.length ≤ c0_2) (h : petrinetref09_Check.f a0_0 l0_1 l0_2 = some (r1, r2)) :
    Calls Try.prog 26 #[.agg #[.string a0_0, .slice A0_1 l0_1.length c0_1, .slice A0_2 l0_2.length c0_2]] w fun e w' => e = .returned (.agg #[.int .i64 r1, .int .i64 r2]) ∧ Below w.heap.size w w' := by
  have e : chkNet a0_0 l0_1 l0_2 = (r1, r2) := by rw [petrinetref09_Check.f] at h; exact Option.some.inj h
  have hc := refCheck_in a0_0 A0_1 c0_1 l0_1 A0_2 c0_2 l0_2 w hr0_1 hr0_2
  rw [e] at hc
  exact hc

end Go.Proofs.Yteaimaafahpamaa.Hy
